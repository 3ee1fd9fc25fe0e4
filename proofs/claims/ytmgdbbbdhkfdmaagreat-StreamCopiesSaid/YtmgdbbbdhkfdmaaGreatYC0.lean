import Derived.WalkKit
import Derived.ProofKit
import Derived.Handy
import Derived.WalkSpells
import Derived.WalkLawsBesides
import Derived.LaidEqlPtr
import Derived.Deep.QuietTactic
import Derived.BigQuiet
import Derived.Deep.Draws
import Derived.StillTailTactics
import Derived.Deep.RegionHeld3
import Derived.Deep.LoopGhost
import Derived.Deep.Slices
import Derived.Deep.MidRow
import Derived.Maps.AppendAt
import Derived.Deep.AppendLies
import Derived.RegionTactic
import Derived.OwnWalk
import Derived.Laws.BytesArg
import Derived.Deep.Quiet
import Derived.Deep.DeepCutAuto
import Derived.Test.YtmgdbbbdhkfdmaaGreatProg
import Derived.Lib.Hide
set_option linter.unusedSimpArgs false
set_option linter.unusedVariables false
set_option maxHeartbeats 40000000
namespace Go.Proofs.YtmgdbbbdhkfdmaaGreat
theorem hI{p:Prop}(h:p):RowKit.Hid p:=Lib.hid h
theorem zqA.{u}{α:Type u}(l:List α)(i:Nat)(a:α):l.toArray.setIfInBounds i a=(l.set i a).toArray:=List.setIfInBounds_toArray l i a
theorem zqB.{u}{α:Type u}{x:α}{xs:List α}{a:α}:(x::xs).set 0 a=a::xs:=rfl
theorem zqC.{u}{α:Type u}{x:α}{xs:List α}{i:Nat}{a:α}:(x::xs).set (i+1) a=x::xs.set i a:=rfl
theorem zk{P:Prop}(h:P:=by kernel_rfl):P:=h
theorem zs{P:Prop}(h:P:=by simp):P:=h
theorem zw{P:Prop}(h:P:=by omega):P:=h
theorem zr{P:Prop}(h:P:=by rfl):P:=h
theorem zd{P:Prop}(h:P:=by decide):P:=h
theorem zt{P:Prop}(h:P:=by trivial):P:=h
theorem zv{P:Prop}(h:P:=by simp;omega):P:=h
theorem zo{P:Prop}(h:P:=by simp [Value.oneCell']):P:=h
end Go.Proofs.YtmgdbbbdhkfdmaaGreat
namespace Go.Proofs.YtmgdbbbdhkfdmaaGreat
set_option maxRecDepth 100000
open Go.RowKit
section
variable {P:Program} {a:Act} {w:World} {Q:Exit->Act->World->Prop}
def fwd(P:Program)(l:Nat)(rest:Code)(Q:Exit->Act->World->Prop):Exit->Act->World->Prop
 | .goto l',a,w=>l'=l/\rest.wp P (Exit.noGoto Q) a w
 | e,a,w=>Q e a w
@[go_sem] theorem fwd_normal (l:Nat) (r:Code):fwd P l r Q .normal a w=Q .normal a w:=rfl
@[go_sem] theorem fwd_exit (l:Nat) (r:Code) (id:Nat):fwd P l r Q (.exit id) a w=Q (.exit id) a w:=rfl
@[go_sem] theorem vZ (l:Nat) (r:Code):fwd P l r Q .ret a w=Q .ret a w:=rfl
@[go_sem] theorem fwd_panic (l:Nat) (r:Code) (ch:List PanicEntry):fwd P l r Q (.panic ch) a w=Q (.panic ch) a w:=rfl
theorem ja(l:Nat)(r:Code)(h:r.wp P (Exit.noGoto Q) a w):fwd P l r Q (.goto l) a w:=⟨rfl,h⟩
theorem qP{c rest:Code}(l:Nat)(hf:findLabel c l=some rest)(h:c.wp P (fwd P l rest Q) a w):(Code.scope c).wp P Q a w:=by
 refine wp_scope_jumps l (fun a w=>rest.wp P (Exit.noGoto Q) a w) (fun _ _=>0) hf ?_ ?_
 ·intro b k cs
  obtain⟨e,a1,w1,hq,ha⟩:=h b k cs;refine⟨e,a1,w1,?_,ha⟩;cases e <;> exact hq
 ·intro a w hJ b k cs
  obtain⟨e,a1,w1,hq,ha⟩:=hJ b k cs;refine⟨e,a1,w1,?_,ha⟩;cases e <;> first|exact hq|exact hq.elim
end
structure Fr(O:List Nat)(w w':World):Prop where
 os:w'.os=w.os
 tape:w'.tape=w.tape
 output:w'.output=w.output
 size:w.heap.size<=w'.heap.size
 block:∀ k,k<w.heap.size->k∉O->w'.heap[k]?=w.heap[k]?
section
variable {w w' a b c:World} {O O':List Nat}
theorem Fr.refl(O:List Nat)(w:World):Fr O w w:=⟨rfl,rfl,rfl,Nat.le_refl _,fun _ _ _=>rfl⟩
theorem zf{P:Prop}(h:P:=by first|exact Fr.refl _ _|assumption):P:=h
theorem Fr.trans(h:Fr O a b)(k:Fr O' b c)(ho:∀ x∈O',x∈O\/a.heap.size<=x):Fr O a c:=
 ⟨k.os.trans h.os,k.tape.trans h.tape,k.output.trans h.output,Nat.le_trans h.size k.size,fun i hi hn=>
  (k.block i (Nat.lt_of_lt_of_le hi h.size) (fun hm=>by rcases ho i hm with h1|h1;exact hn h1;omega)).trans (h.block i hi hn)⟩
theorem Fr.mono(h:Fr O a b)(ho:∀ x∈O,x∈O'):Fr O' a b:=⟨h.os,h.tape,h.output,h.size,fun i hi hn=>h.block i hi (fun hm=>hn (ho i hm))⟩
theorem Fr.drew(h:Fr O a w):Fr O a w.drew:=⟨h.os,h.tape,h.output,h.size,h.block⟩
theorem Fr.drewN(h:Fr O a w)(n:Nat):Fr O a (w.drewN n):=⟨h.os,h.tape,h.output,h.size,h.block⟩
theorem Fr.alloc(h:Fr O a w)(o:Obj):Fr O a (w.alloc o):=
 ⟨h.os,h.tape,h.output,Nat.le_trans h.size zs,fun i hi hn=>(Below.heap_alloc w o i (Nat.lt_of_lt_of_le hi h.size)).trans (h.block i hi hn)⟩
theorem Fr.setCell(h:Fr O a w){p:Addr}(hp:p.block∈O\/a.heap.size<=p.block)(u:Value):Fr O a (w.setCell p u):=
 ⟨h.os,h.tape,h.output,by simpa [World.setCell] using h.size,fun i hi hn=>(Below.heap_setCell w p u i (by
  rintro rfl;rcases hp with hp|hp
  ·exact hn hp
  ·omega)).trans (h.block i hi hn)⟩
theorem Fr.cell(h:Fr O w w'){p:Addr}(hp:p.block<w.heap.size)(hn:p.block∉O):w'.cell? p=w.cell? p:=World.cell?_of_block (w:=w) (h.block p.block hp hn)
theorem Fr.frozen(h:Fr O w w'){p:Addr}(hp:p.block<w.heap.size)(hn:p.block∉O):w'.frozen? p=w.frozen? p:=World.frozen?_of_block (w:=w) (h.block p.block hp hn)
end
def Blk(w:World)(g:Nat)(t:TypeId)(cs:Array Value):Prop:=w.heap[g]?=some (.cells cs t (0,0))
section
variable {w w':World} {g:Nat} {t:TypeId} {cs:Array Value}
theorem Blk.lt(h:Blk w g t cs):g<w.heap.size:=by
 rcases Nat.lt_or_ge g w.heap.size with hlt|hge
 ·exact hlt
 ·unfold Blk at h;rw [Array.getElem?_eq_none hge] at h;cases h
theorem Blk.cell(h:Blk w g t cs)(i:Nat):w.cell? ⟨g,i,none⟩=cs[i]?:=cell_of_row w g i cs t (0,0) h
theorem Blk.frozen(h:Blk w g t cs)(i:Nat):w.frozen? ⟨g,i,none⟩=false:=by
 unfold Blk at h;simp [World.frozen?,h]
theorem Blk.new(w:World)(t:TypeId)(cs:Array Value):Blk (w.alloc (.cells cs t)) w.heap.size t cs:=heap_alloc_new w _
theorem Blk.drew(h:Blk w g t cs):Blk w.drew g t cs:=h
theorem Blk.drewN(h:Blk w g t cs)(n:Nat):Blk (w.drewN n) g t cs:=h
theorem Blk.alloc(h:Blk w g t cs)(o:Obj):Blk (w.alloc o) g t cs:=(Below.heap_alloc w o g h.lt).trans h
theorem Blk.qO(h:Blk w g t cs)(i:Nat)(u:Value):Blk (w.setCell ⟨g,i,none⟩ u) g t (cs.setIfInBounds i u):=by
 unfold Blk at h |-
 simp [World.setCell,Array.getElem?_modify,h]
theorem Blk.far(h:Blk w g t cs){p:Addr}(hp:g≠p.block)(u:Value):Blk (w.setCell p u) g t cs:=(Below.heap_setCell w p u g hp).trans h
theorem Blk.fr{O:List Nat}(h:Blk w g t cs)(hb:Fr O w w')(hg:g∉O):Blk w' g t cs:=(hb.block g h.lt hg).trans h
end
@[go_sem] theorem max2_int (k k':IntKind) (x y:Int):Builtin.max2 (.int k x) (.int k' y)=pure (.int k (max x y)):=by
 simp only [Builtin.max2,gt_iff_lt];rw [show (max x y)=if x<y then y else x from by split <;> omega]
@[go_sem] theorem min2_int (k k':IntKind) (x y:Int):Builtin.min2 (.int k x) (.int k' y)=pure (.int k (min x y)):=by
 simp only [Builtin.min2];rw [show (min x y)=if y<x then y else x from by split <;> omega]
@[go_sem] theorem max_two (ats:Array TypeId) (ty:TypeId) (a b:Value):Builtin.max_ ats ty #[a,b]=(Builtin.max2 a b >>= fun s=>pure s):=by simp only [Builtin.max_,List.foldlM_cons,List.foldlM_nil]
@[go_sem] theorem min_two (ats:Array TypeId) (ty:TypeId) (a b:Value):Builtin.min_ ats ty #[a,b]=(Builtin.min2 a b >>= fun s=>pure s):=by simp only [Builtin.min_,List.foldlM_cons,List.foldlM_nil]
@[go_sem] theorem max_three (ats:Array TypeId) (ty:TypeId) (a b c:Value):Builtin.max_ ats ty #[a,b,c]=(Builtin.max2 a b >>= fun s=>Builtin.max2 s c >>= fun s=>pure s):=by simp only [Builtin.max_,List.foldlM_cons,List.foldlM_nil]
@[go_sem] theorem min_three (ats:Array TypeId) (ty:TypeId) (a b c:Value):Builtin.min_ ats ty #[a,b,c]=(Builtin.min2 a b >>= fun s=>Builtin.min2 s c >>= fun s=>pure s):=by simp only [Builtin.min_,List.foldlM_cons,List.foldlM_nil]
theorem zY{P:Program}{f:FuncId}{args:Array Value}{w:World}{n:Nat}{v:Value}
  (h:Calls P f args (w.drewN n) fun e w'=>e = .returned v/\w.drewN n=w'):Calls P f args (w.drewN n) fun e w''=>e = .returned v/\∃ m,w''=w.drewN m:=
 h.mono fun _ _ ⟨he,hm⟩=>⟨he,n,hm.symm⟩
theorem wf_u32{a:Int}(h:(Lit.int .u32 a).wf=true):0<=a/\a<4294967296:=by
 have h1:IntKind.u32.min=0:=rfl;have h2:IntKind.u32.max=4294967295:=rfl;simp only [Lit.wf,Bool.and_eq_true,decide_eq_true_eq,h1,h2] at h;omega
theorem wf_u16{a:Int}(h:(Lit.int .u16 a).wf=true):0<=a/\a<65536:=by
 have h1:IntKind.u16.min=0:=rfl;have h2:IntKind.u16.max=65535:=rfl;simp only [Lit.wf,Bool.and_eq_true,decide_eq_true_eq,h1,h2] at h;omega
theorem qis{k l:IntKind}{a b c d:Int}(h:a=c)(h2:b=d):Ending.returned (.tuple #[.int k a, .int l b])=Ending.returned (.tuple #[.int k c, .int l d]):=by rw [h,h2]
theorem qbq{k:IntKind}{a c:Int}(h:a=c):Ending.returned (.int k a)=Ending.returned (.int k c):=by rw [h]
theorem qef{a c:Bool}(h:a=c):Ending.returned (.bool a)=Ending.returned (.bool c):=by rw [h]
end Go.Proofs.YtmgdbbbdhkfdmaaGreat
namespace Go.Proofs.YtmgdbbbdhkfdmaaGreat
set_option maxRecDepth 100000
open Go.RowKit
theorem block_add(a:Addr)(n:Nat):(a.add n).block=a.block:=by unfold Addr.add;split <;> rfl
theorem add_add'(a:Addr)(i j:Nat):(a.add i).add j=a.add (i+j):=by
 unfold Addr.add;by_cases hi:i=0 <;> by_cases hj:j=0 <;> simp [hi,hj,Nat.add_assoc]
def Reads(w:World)(B:Nat)(A:Option Addr)(n:Nat)(f:Nat->Value):Prop:=
 ∀ k,k<n->∃ ad,A=some ad/\ad.block<B/\w.cell? (ad.add k)=some (f k)
theorem Reads.fr{w w':World}{B:Nat}{A:Option Addr}{n:Nat}{f:Nat->Value}{O:List Nat}(h:Reads w B A n f)(hf:Fr O w w')(hB:B<=w.heap.size)(hO:∀ x∈O,B<=x):Reads w' B A n f:=by
 intro k hk;obtain⟨ad,e,hb,hc⟩:=h k hk;refine⟨ad,e,hb,?_⟩;rw [hf.cell (by rw [block_add];omega) (by rw [block_add];intro hm;have:=hO _ hm;omega)];exact hc
section
variable {H:Type} {enc:TypeId × Value->H} {P:Program} {w:World} {base:Nat} {spare:Nat->Bool} {held:Bool}
theorem reads_ints{t e:TypeId}{k:IntKind}{fuel:Nat}{a:Option Addr}{len cap:Nat}{x:DataW H × List MemPlace}(ht:P.underlying t=some (.slice e))(he:P.underlying e=some (.int k))(hc:P.cellsOf e=1)
  (h:DataW.trod enc P w base spare held fuel t [.slice a len cap]=some x) :
  ∃ zs:Nat->Int,Reads w w.heap.size a len (fun i => .int k (zs i))/\(∀ i,i<len->(Lit.int k (zs i)).wf=true)/\len<=maxLen:=by
 rcases Go.Deep.open_slice1 ht hc h with ⟨hcs,_⟩|⟨x,l,c,m,n,V,D,Pl,hcs,_,hl,hm,hmm,_,hcell⟩
 ·simp at hcs
  obtain⟨rfl,rfl,rfl⟩:=hcs;exact⟨fun _=>0,fun k hk=>absurd hk zw,fun k hk=>absurd hk zw,by simp [maxLen]⟩
 ·simp at hcs
  obtain⟨rfl,rfl,rfl⟩:=hcs;have hlm:len<=m:=by rw [hmm];split <;> omega
  refine⟨fun i=>match V i with | .int _ q=>q|_=>0,fun i hi=>?_,fun i hi=>?_,zw⟩
  ·obtain⟨h1,h2⟩:=hcell i zw
   obtain⟨q,hq,_,hw⟩:=DataW.trod_int he h2;simp at hq;refine⟨x,rfl,?_,?_⟩
   ·have:=World.block_lt_of_cell? w _ h1
    rwa [block_add] at this
   ·dsimp only
    rw [h1,hq]
  ·obtain⟨h1,h2⟩:=hcell i zw
   obtain⟨q,hq,_,hw⟩:=DataW.trod_int he h2;simp at hq;dsimp only;rw [hq];exact hw
end
end Go.Proofs.YtmgdbbbdhkfdmaaGreat
namespace Go.Proofs.YtmgdbbbdhkfdmaaGreat
set_option maxRecDepth 100000
open Go.RowKit
section
variable {P:Program} {ops:Array Oper} {rest:List Oper} {op:Oper} {a:Act} {w:World} {Q:Exit->Act->World->Prop}
theorem vC(b:Nat):∀(vs:List Value) (o:Nat) (w:World),Fr [b] w (w.setCells b o vs)
 | [],_,w=>Fr.refl _ _
 | v::r,o,w=>by
  rw [World.setCells];exact Fr.trans (Fr.setCell (Fr.refl _ _) zs _) (vC b r (o+1) _) zs
theorem vI(b:Nat)(t:TypeId):∀(vs:List Value) (o:Nat) (w:World) (l:List Value),Blk w b t l.toArray->o+vs.length<=l.length ->
  Blk (w.setCells b o vs) b t (l.take o++vs++l.drop (o+vs.length)).toArray
 | [],o,w,l,h,_=>by simpa [World.setCells] using h
 | v::r,o,w,l,h,hl=>by
  simp only [List.length_cons] at hl;rw [World.setCells];have h1:=Blk.qO h o v;have e1:l.toArray.setIfInBounds o v=(l.set o v).toArray:=zs;rw [e1] at h1;have h2:=vI b t r (o+1) _ (l.set o v) h1 zv;have e2:(l.set o v).take (o+1)++r++(l.set o v).drop (o+1+r.length)=l.take o++(v::r)++l.drop (o+(v::r).length):=by
   rw [List.drop_set_of_lt zw];rw [show (l.set o v).take (o+1)=l.take o++[v] from by
    rw [List.take_add_one];simp [List.take_set_of_le,show o<l.length from by omega]]
   rw [show o+1+r.length=o+(v::r).length from by simp;omega];simp
  rw [e2] at h2;exact h2
theorem qi{d:Option Tmp}{t:TypeId}{pos:String}{af:Array Edge}{gd:Option (Nat × Bool)}(ty:TypeId)(x:Operand){y:Operand}(h:wpList P ops Q (⟨d, .store ty x y,t,pos,af,gd⟩::rest) a w):wpList P ops Q (⟨d, .store ty x y,t,pos,af,gd⟩::rest) a w:=h
theorem qj{d:Option Tmp}{t:TypeId}{pos:String}{af:Array Edge}{gd:Option (Nat × Bool)}(ty:TypeId)(x:Operand)(h:wpList P ops Q (⟨d, .load ty x,t,pos,af,gd⟩::rest) a w):wpList P ops Q (⟨d, .load ty x,t,pos,af,gd⟩::rest) a w:=h
theorem qc(hgd:op.guard=none)(ty:TypeId)(x y:Operand)(ho:op.op = .store ty x y)(b:Nat)(t:TypeId)(cs cells:Array Value)
  (hx:a.eval x = .pointer (some ⟨b,0,none⟩)) (hy:a.eval y = .agg cells) (hB:Blk w b t cs) (hs:cs.size=cells.size) (hi:(P.info? ty).map (·.size)=some cells.size) (h1:cells.all (·.oneCell')=true)
  (h:∀ w',Blk w' b t cells->Fr [b] w w'->wpList P ops Q rest (a.put op.dst undef) w'):wpList P ops Q (op::rest) a w:=by
 refine wpList_store_mid hgd ty x y ho b 0 cells hx hy (fun j hj=>?_) hi h1 (h _ ?_ (vC b _ 0 w))
 ·have hc:=Blk.cell hB j
  refine⟨?_,?_⟩
  ·rw [Nat.zero_add,hc]
   simp [show j<cs.size from by omega]
  ·rw [Nat.zero_add]
   exact Blk.frozen hB j
 ·have:=vI b t cells.toList 0 w cs.toList (by simpa using hB) zv
  have e:cs.toList.take 0++cells.toList++cs.toList.drop (0+cells.toList.length)=cells.toList:=by
   rw [List.drop_of_length_le zv];simp
  rw [e] at this;simpa using this
theorem qf(hgd:op.guard=none)(ty:TypeId)(x:Operand)(ho:op.op = .load ty x)(b:Nat)(t:TypeId)(cs:Array Value)(d:TypeDesc)
  (hx:a.eval x = .pointer (some ⟨b,0,none⟩)) (hB:Blk w b t cs) (hu:P.underlying ty=some d) (hd:d.isRow=true) (hi:(P.info? ty).map (·.size)=some cs.size)
  (h:wpList P ops Q rest (a.put op.dst (.agg cs)) w):wpList P ops Q (op::rest) a w:=by
 refine wpList_load_mid hgd ty x ho b 0 hx cs.toList d (fun j v hj=>?_) hu hd (by simpa using hi) (by simpa using h);rw [Nat.zero_add,Blk.cell hB j];simpa using hj
end
end Go.Proofs.YtmgdbbbdhkfdmaaGreat
namespace Go.Proofs.YtmgdbbbdhkfdmaaGreat
set_option maxRecDepth 100000
open Go.RowKit
structure Grew(w:World) where
 W:World
 fr:Fr [] w W
instance(w:World):Inhabited (Grew w):=⟨⟨w,Fr.refl [] w⟩⟩
theorem Grew.cell{w:World}{a:Addr}{v:Value}(h:w.cell? a=some v)(p:Grew w):p.W.cell? a=some v:=
 (p.fr.cell (World.block_lt_of_cell? w a h) zs).trans h
theorem yh{P:Program}{ops:Array Oper}{C:World->Prop}{Q Q':Act->Prop}(h:∀ a,Q a->Q' a):∀(l:List Oper) (a:Act),wpQuiet P ops C Q l a->wpQuiet P ops C Q' l a
 | [],a,hh=>h a hh
 | o::rest,a,hh=>by
  unfold wpQuiet at hh |-
  split
  ·rename_i hw
   rw [if_pos hw] at hh;exact Oper.quiet_mono (fun a'=>yh h rest a') hh
  ·rename_i hw
   rw [if_neg hw] at hh;exact yh h rest _ hh
theorem qg{P:Program}{id:Nat}{Q:Exit->Act->World->Prop}{a:Act}{w:World}{l:List Oper}(hm:P.follows .mixedOrders=true)(hB:Region.lexB .any l.toArray=true)
  (h:wpQuiet P l.toArray (fun w'=>∃ p:Grew w,w'=p.W) (fun a'=>∀ w',Fr [] w w'->Q .normal a' w') l a):(Code.region id l.toArray true).wp P Q a w:=
 wp_mono (wp_region_quiet (Q:=fun e a w'=>∃ f:Fr [] w w',∀(_:Fr [] w w'),Q e a w') (C:=fun w'=>∃ p:Grew w,w'=p.W) hm hB ⟨⟨_,(Fr.refl [] w).drew⟩,rfl⟩ (by
  refine yh (fun a' (ha:∀ w',Fr [] w w'->Q .normal a' w') w' hw'=>?_) _ _ (by simpa using h);obtain⟨p,rfl⟩:=hw';exact⟨p.fr,fun f=>ha _ f⟩)) (fun e a w' ⟨f,h⟩=>h f)
theorem qG{P:Program}{f:FuncId}{args:Array Value}{w:World}{p:Grew w}{v:Value}
  (h:Calls P f args p.W fun e w'=>e = .returned v/\Fr [] p.W w'):Calls P f args p.W fun e w''=>e = .returned v/\∃ q:Grew w,w''=q.W:=
 h.mono fun _ _ ⟨he,hf⟩=>⟨he,⟨_,p.fr.trans hf zs⟩,rfl⟩
theorem kN{P:Program}{f:FuncId}{args:Array Value}{w:World}{p:Grew w}{v:Value}
  (h:Calls P f args p.W fun e w'=>e = .returned v/\p.W=w'):Calls P f args p.W fun e w''=>e = .returned v/\∃ q:Grew w,w''=q.W:=
 h.mono fun _ _ ⟨he,hf⟩=>⟨he,p,hf.symm⟩
def Sl(S:Nat->Prop)(w:World)(size:Nat)(v:Value)(n:Nat)(xs:List Value):Prop:=
 xs.length=n * size/\∃ A c,v = .slice A n c/\n<=c/\c<=maxLen/\(0<n->∃ b o,A=some ⟨b,o,none⟩/\S b/\∀ j u,xs[j]?=some u->w.cell? ⟨b,o+j,none⟩=some u)
def ob(v:Value):List Nat:=v.ownBlock.toList
theorem zb{P:Prop}(h:P:=by simp [ob,Value.ownBlock]):P:=h
theorem qo{v:Value}{b:Nat}:b∈ob v↔v.ownBlock=some b:=by unfold ob;cases v.ownBlock <;> simp [eq_comm]
section
variable {S S':Nat->Prop} {w w':World} {size n:Nat} {v:Value} {xs:List Value} {O:List Nat}
theorem Sl.fr(h:Sl S w size v n xs)(hf:Fr O w w')(hO:∀ x∈O,¬ S x):Sl S w' size v n xs:=by
 obtain⟨hl,A,c,hv,hn,hc,hx⟩:=h;refine⟨hl,A,c,hv,hn,hc,fun h0=>?_⟩;obtain⟨b,o,hA,hb,hu⟩:=hx h0;exact⟨b,o,hA,hb,fun j u hj=>(hf.cell (p:=⟨b,o+j,none⟩) (World.block_lt_of_cell? w _ (hu j u hj)) (fun hm=>hO _ hm hb)).trans (hu j u hj)⟩
theorem Sl.mono(h:Sl S w size v n xs)(hS:∀ b,S b->S' b):Sl S' w size v n xs:=by
 obtain⟨hl,A,c,hv,hn,hc,hx⟩:=h;refine⟨hl,A,c,hv,hn,hc,fun h0=>?_⟩;obtain⟨b,o,hA,hb,hu⟩:=hx h0;exact⟨b,o,hA,hS b hb,hu⟩
theorem Sl.nil:Sl S w size (.slice none 0 0) 0 []:=⟨zs,none,0,rfl,Nat.le_refl _,by simp [maxLen],fun h=>absurd h zw⟩
theorem Sl.none_{c:Nat}(h:Sl S w size (.slice none n c) n xs):n=0/\xs=[]:=by
 obtain⟨hl,A,c',hv,hn,hc,hx⟩:=h;injection hv with hA _ _;rcases Nat.eq_zero_or_pos n with h0|h0
 ·subst h0
  exact⟨rfl,List.eq_nil_of_length_eq_zero (by simpa using hl)⟩
 ·obtain⟨b,o,hA',_⟩:=hx h0
  rw [<- hA] at hA';cases hA'
theorem Sl.form(h:Sl S w size v n xs):∃ A c,v = .slice A n c/\n<=c/\c<=maxLen:=by
 obtain⟨_,A,c,hv,hn,hc,_⟩:=h;exact⟨A,c,hv,hn,hc⟩
theorem Sl.cut{A:Option Addr}{c k:Nat}(h:Sl S w size (.slice A n c) n xs)(hk:k<=n) :
  Sl S w size (.slice (if c=k then A else A.map (·.add (k * size))) (n - k) (c - k)) (n - k) (xs.drop (k * size)):=by
 obtain⟨hl,A',c',hv,hn,hc,hx⟩:=h;injection hv with hA _ hcc;subst hA hcc;refine⟨by rw [List.length_drop,hl,Nat.sub_mul],_,_,rfl,zw,zw,fun h0=>?_⟩;obtain⟨b,o,rfl,hb,hu⟩:=hx zw;rw [if_neg zw];refine⟨b,o+k * size,?_,hb,fun j u hj=>?_⟩
 ·simp only [Option.map_some]
  unfold Addr.add;split
  ·rename_i h;rw [h];rfl
  ·rfl
 ·rw [Nat.add_assoc]
  exact hu _ u (by rw [<- hj,List.getElem?_drop])
theorem Sl.take{A:Option Addr}{c k:Nat}(h:Sl S w size (.slice A n c) n xs)(hk:k<=n):Sl S w size (.slice A k c) k (xs.take (k * size)):=by
 obtain⟨hl,A',c',hv,hn,hc,hx⟩:=h;injection hv with hA _ hcc;subst hA hcc;refine⟨by rw [List.length_take,hl];exact Nat.min_eq_left (Nat.mul_le_mul_right _ hk),_,_,rfl,zw,hc,fun h0=>?_⟩;obtain⟨b,o,rfl,hb,hu⟩:=hx zw;refine⟨b,o,rfl,hb,fun j u hj=>hu _ u ?_⟩;rw [List.getElem?_take] at hj;split at hj
 ·exact hj
 ·cases hj
theorem Sl.kW{e:TypeId}(h:w.ownsRow 0 e size v n xs)(hS:∀ b,v.ownBlock=some b->S b):Sl S w size v n xs:=by
 refine⟨h.1,?_⟩;rcases h.2 with ⟨rfl,rfl⟩|⟨g,cap,cur,rfl,_,hg,hnc,hcm,hcs,htake⟩
 ·exact⟨none,0,rfl,Nat.le_refl _,by simp [maxLen],fun h=>absurd h zw⟩
 ·refine⟨_,_,rfl,hnc,hcm,fun h0=>⟨g,0,rfl,hS g rfl,fun j u hj=>?_⟩⟩
  rw [Nat.zero_add,cell_of_row w g j cur e (0,0) hg,<- Array.getElem?_toList];rw [<- htake,List.getElem?_take] at hj;split at hj
  ·exact hj
  ·cases hj
theorem qA{base:Nat}{e:TypeId}(h:w.ownsRow base e size v n xs)(hf:Fr O w w')(hO:∀ b,v.ownBlock=some b->b∉O):w'.ownsRow base e size v n xs:=by
 refine⟨h.1,?_⟩;rcases h.2 with hn|⟨g,cap,cur,rfl,hb,hgg,rest⟩
 ·exact .inl hn
 ·exact .inr ⟨g,cap,cur,rfl,hb,(hf.block g (Array.getElem?_eq_some_iff.1 hgg).1 (hO g rfl)).trans hgg,rest⟩
theorem qY{base:Nat}{e:TypeId}(h:w.ownsRow base e size v n xs):∃ A c,v = .slice A n c/\n<=c/\c<=maxLen:=by
 rcases h.2 with ⟨rfl,rfl⟩|⟨g,cap,cur,rfl,hb,hgg,h1,h2,_⟩
 ·exact⟨none,0,rfl,Nat.le_refl _,by simp [maxLen]⟩
 ·exact⟨_,_,rfl,h1,h2⟩
theorem kG{base:Nat}{e:TypeId}(h:w.ownsRow base e size v n xs){b:Nat}(hb:v.ownBlock=some b):b<w.heap.size:=(h.lt b hb).2
theorem own_ne{base:Nat}{e t:TypeId}{cs:Array Value}{g:Nat}(h:w.ownsRow base e size v n xs)(hg:Blk w g t cs)(hne:e≠t):v.ownBlock≠some g:=by
 rcases h.2 with ⟨rfl,_⟩|⟨g',cap,cur,rfl,_,hh,_⟩
 ·simp [Value.ownBlock]
 ·intro he
  obtain rfl:g'=g:=by simpa [Value.ownBlock] using he
  unfold Blk at hg;rw [hh] at hg;injection hg with hg;injection hg with _ ht;exact hne ht
theorem jR{base base':Nat}{e t:TypeId}{m size':Nat}{v':Value}{ys:List Value}(h:w.ownsRow base e size v n xs)(h':w.ownsRow base' t size' v' m ys)(hne:e≠t){b:Nat}(hb:v.ownBlock=some b):v'.ownBlock≠some b:=by
 rcases h.2 with ⟨rfl,_⟩|⟨g,cap,cur,rfl,_,hh,_⟩
 ·simp [Value.ownBlock] at hb
 ·obtain rfl:g=b:=by simpa [Value.ownBlock] using hb
  exact own_ne h' (g:=g) (cs:=cur) hh (fun e=>hne e.symm)
theorem kP{g g':Nat}{t t':TypeId}{cs cs':Array Value}(h:Blk w g t cs)(h':Blk w g' t' cs')(hne:t≠t'):g≠g':=by
 rintro rfl;unfold Blk at h h';rw [h] at h';injection h' with h';injection h' with _ ht;exact hne ht
end
section
variable {P:Program} (w:World)
theorem qdf(t ty e:TypeId)(i:TypeInfo)(z:Value)(size bytes:Nat)(ht:P.underlying t=some (.slice e))(hi:P.info? e=some i)(hz:i.zero=some z)
  (hsize:i.size=size) (hby:i.bytes=bytes) (hzs:z.cells.size=size) (hsz:0<size)
  (v:Value) (n:Nat) (xs:List Value) (hown:w.ownsRow 0 e size v n xs)
  (S:Nat->Prop) (s:Value) (m:Nat) (news:List Value) (hr:Sl S w size s m news) (h1:∀ u∈news,u.oneCell'=true)
  (h63:n+m<=maxLen) (hbytes:(n+m) * bytes<=140737488355328) :
  ∃ A c w',(Builtin.append_ #[t,t] ty #[v,s]).run P w = .ok (.slice A (n+m) c) w'/\w'.ownsRow 0 e size (.slice A (n+m) c) (n+m) (xs++news)/\Fr (ob v) w w' /\
   (∀ b,(Value.slice A (n+m) c).ownBlock=some b->v.ownBlock=some b\/(w.heap.size<=b/\b<w'.heap.size)):=by
 obtain⟨hl,As,cs,rfl,hmc,hcm,hx⟩:=hr;rcases Nat.eq_zero_or_pos m with h0|h0
 ·subst h0
  have hn:news=[]:=List.eq_nil_of_length_eq_zero (by simpa using hl);subst hn;rcases hown.2 with ⟨rfl,rfl⟩|⟨g,cap,cur,rfl,hb,hg,hnc,hr⟩
  ·refine⟨none,0,w,?_,by simpa using hown,(Fr.refl _ _),fun b hb => .inl hb⟩
   cases As with
   | none=>simp [Builtin.append_,run_underlying ht,sizeOf,typeInfo,hi,Builtin.lenOf,Builtin.firstCells]
   | some ad=>simp [Builtin.append_,run_underlying ht,sizeOf,typeInfo,hi,Builtin.lenOf,Builtin.firstCells,loadCells,loadCellsFrom]
  ·refine⟨_,cap,w,?_,by simpa using hown,(Fr.refl _ _),fun b hb => .inl hb⟩
   cases As with
   | none=>simp [Builtin.append_,run_underlying ht,sizeOf,typeInfo,hi,Builtin.lenOf,Builtin.firstCells,hnc,storeCells]
   | some ad=>simp [Builtin.append_,run_underlying ht,sizeOf,typeInfo,hi,Builtin.lenOf,Builtin.firstCells,hnc,storeCells,loadCells,loadCellsFrom]
 ·obtain⟨b,o,rfl,hb,hu⟩:=hx h0
  have hcells:∀ j u,news[j]?=some u->w.cell? ((⟨b,o,none⟩:Addr).add j)=some u:=fun j u hj=>by
   have:(⟨b,o,none⟩:Addr).add j=⟨b,o+j,none⟩:=by unfold Addr.add;split <;> simp_all
   rw [this];exact hu j u hj
  obtain⟨g,cap,w',hr,h2,h3,h4,h5⟩:=run_append_lies (P:=P) w t ty 0 e i z size bytes ht hi hz hsize hby hzs hsz v n xs hown ⟨b,o,none⟩ m cs news hl hcells h1 h0 h63 hbytes (Nat.zero_le _) w.heap.size rfl;refine⟨_,cap,w',hr,h2,⟨h3.os,h3.tape,h3.output,h3.size,fun k hk hn=>h3.block k hk (fun e=>hn (qo.2 e.symm))⟩,fun b' hb'=>?_⟩;have:g=b':=by simpa [Value.ownBlock] using hb'
  subst this;rcases h4 with h4|h4
  ·exact .inl h4
  ·exact .inr ⟨zw,h5⟩
theorem qae{o:Oper}{a:Act}{K:Act->World->Prop}{Q:Exit->Act->World->Prop}(d x:Operand)(t:TypeId)
  (ho:o.op = .call { callee := .builtin .append,args:=#[d,x],argTypes:=#[t,t] })
  (e:TypeId) (i:TypeInfo) (z:Value) (size bytes:Nat) (ht:P.underlying t=some (.slice e)) (hi:P.info? e=some i) (hz:i.zero=some z)
  (hsize:i.size=size) (hby:i.bytes=bytes) (hzs:z.cells.size=size) (hsz:0<size)
  (v:Value) (n:Nat) (xs:List Value) (hd:a.eval d=v) (hown:w.ownsRow 0 e size v n xs)
  (S:Nat->Prop) (s:Value) (m:Nat) (news:List Value) (hx:a.eval x=s) (hr:Sl S w size s m news) (h1:∀ u∈news,u.oneCell'=true)
  (h63:n+m<=maxLen) (hbytes:(n+m) * bytes<=140737488355328) (N:Nat) (hN:n+m=N)
  (h:∀ A c w',w'.ownsRow 0 e size (.slice A N c) N (xs++news)->Fr (ob v) w w'->(∀ b,(Value.slice A N c).ownBlock=some b->v.ownBlock=some b\/(w.heap.size<=b/\b<w'.heap.size))->K (a.put o.dst (.slice A N c)) w'):o.wp P a w K Q:=by
 subst hN;obtain⟨A,c,w',hrun,h2,h3,h4⟩:=qdf (P:=P) w t o.type e i z size bytes ht hi hz hsize hby hzs hsz v n xs hown S s m news hr h1 h63 hbytes;unfold Oper.wp execOp;simp only [ho,resolve,invoke,builtin,Sem.run_bind,Sem.run_pure,Result.andThen_ok,List.map_toArray,List.map_cons,List.map_nil,hd,hx,hrun];exact h A c w' h2 h3 h4
theorem qE{ops:Array Oper}{rest:List Oper}{o:Oper}{a:Act}{Q:Exit->Act->World->Prop}(hgd:o.guard=none)(d x:Operand)(t:TypeId)
  (ho:o.op = .call { callee := .builtin .append,args:=#[d,x],argTypes:=#[t,t] })
  (e:TypeId) (i:TypeInfo) (z:Value) (size bytes:Nat) (ht:P.underlying t=some (.slice e)) (hi:P.info? e=some i) (hz:i.zero=some z)
  (hsize:i.size=size) (hby:i.bytes=bytes) (hzs:z.cells.size=size) (hsz:0<size)
  (v:Value) (n:Nat) (xs:List Value) (hd:a.eval d=v) (hown:w.ownsRow 0 e size v n xs)
  (S:Nat->Prop) (s:Value) (m:Nat) (news:List Value) (hx:a.eval x=s) (hr:Sl S w size s m news) (h1:∀ u∈news,u.oneCell'=true)
  (h63:n+m<=maxLen) (hbytes:(n+m) * bytes<=140737488355328) (N:Nat) (hN:n+m=N)
  (h:∀ A c w',w'.ownsRow 0 e size (.slice A N c) N (xs++news)->Fr (ob v) w w'->(∀ b,(Value.slice A N c).ownBlock=some b->v.ownBlock=some b\/(w.heap.size<=b/\b<w'.heap.size))->wpList P ops Q rest (a.put o.dst (.slice A N c)) w'):wpList P ops Q (o::rest) a w:=
 wpList_plain hgd fun _ hK=>qae w d x t ho e i z size bytes ht hi hz hsize hby hzs hsz v n xs hd hown S s m news hx hr h1 h63 hbytes N hN fun A c w' h2 h3 h4=>hK _ _ (h A c w' h2 h3 h4)
theorem zn{ops:Array Oper}{o:Oper}{a:Act}{K:Act->World->Prop}{Q:Exit->Act->World->Prop}{E:Prop}(hgd:o.guard=none)(d x:Operand)(t:TypeId)
  (ho:o.op = .call { callee := .builtin .append,args:=#[d,x],argTypes:=#[t,t] })
  (e:TypeId) (i:TypeInfo) (z:Value) (size bytes:Nat) (ht:P.underlying t=some (.slice e)) (hi:P.info? e=some i) (hz:i.zero=some z)
  (hsize:i.size=size) (hby:i.bytes=bytes) (hzs:z.cells.size=size) (hsz:0<size)
  (v:Value) (n:Nat) (xs:List Value) (hd:a.eval d=v) (hown:w.ownsRow 0 e size v n xs)
  (S:Nat->Prop) (s:Value) (m:Nat) (news:List Value) (hx:a.eval x=s) (hr:Sl S w size s m news) (h1:∀ u∈news,u.oneCell'=true)
  (h63:n+m<=maxLen) (hbytes:(n+m) * bytes<=140737488355328) (N:Nat) (hN:n+m=N)
  (h:∀ A c w',w'.ownsRow 0 e size (.slice A N c) N (xs++news)->Fr (ob v) w w'->(∀ b,(Value.slice A N c).ownBlock=some b->v.ownBlock=some b\/(w.heap.size<=b/\b<w'.heap.size))->K (a.put o.dst (.slice A N c)) w') :
  if Region.wanted o (yielded ops a.tmps)=true then Oper.wp P o a w K Q else E:=by
 have hw:Region.wanted o (yielded ops a.tmps)=true:=by simp [Region.wanted,hgd]
 rw [if_pos hw];exact qae w d x t ho e i z size bytes ht hi hz hsize hby hzs hsz v n xs hd hown S s m news hx hr h1 h63 hbytes N hN h
end
def kE(l:List Int):List Value:=l.map (Value.int .u8)
def Byt(S:Nat->Prop)(w:World)(v:Value)(l:List Int):Prop:=Sl S w 1 v l.length (kE l)
theorem ji(l:List Int):∀ u∈kE l,u.oneCell'=true:=by
 intro u hu;obtain⟨x,_,rfl⟩:=List.mem_map.1 hu;rfl
theorem vJ(l m:List Int):kE l++kE m=kE (l++m):=by simp [kE]
theorem qjp(l:List Int)(k:Nat):(kE l).drop k=kE (l.drop k):=by simp [kE]
theorem qjq(l:List Int)(k:Nat):(kE l).take k=kE (l.take k):=by simp [kE]
section
variable {S S':Nat->Prop} {w w':World} {v:Value} {l:List Int} {O:List Nat}
theorem Byt.fr(h:Byt S w v l)(hf:Fr O w w')(hO:∀ x∈O,¬ S x):Byt S w' v l:=Sl.fr h hf hO
theorem Byt.mono(h:Byt S w v l)(hS:∀ b,S b->S' b):Byt S' w v l:=Sl.mono h hS
theorem Byt.nil:Byt S w (.slice none 0 0) []:=Sl.nil
theorem Byt.form(h:Byt S w v l):∃ A c,v = .slice A l.length c/\l.length<=c/\c<=maxLen:=Sl.form h
theorem Byt.cut{A:Option Addr}{n c k:Nat}(h:Byt S w (.slice A n c) l)(hk:k<=l.length):Byt S w (.slice (if c=k then A else A.map (·.add k)) (n - k) (c - k)) (l.drop k):=by
 have hn:n=l.length:=by
  obtain⟨_,A',c',hv,_⟩:=h;injection hv
 subst hn;have:=Sl.cut h hk;rw [Nat.mul_one] at this;unfold Byt;rw [List.length_drop,<- qjp];exact this
theorem Byt.take{A:Option Addr}{n c k:Nat}(h:Byt S w (.slice A n c) l)(hk:k<=l.length):Byt S w (.slice A k c) (l.take k):=by
 have hn:n=l.length:=by
  obtain⟨_,A',c',hv,_⟩:=h;injection hv
 subst hn;have:=Sl.take h hk;rw [Nat.mul_one] at this;unfold Byt;rw [List.length_take,Nat.min_eq_left hk,<- qjq];exact this
theorem Byt.len{A:Option Addr}{n c:Nat}(h:Byt S w (.slice A n c) l):n=l.length:=by
 obtain⟨_,A',c',hv,_⟩:=h;injection hv
theorem Byt.at_{A:Option Addr}{n c k:Nat}(h:Byt S w (.slice A n c) l)(hk:k<l.length):∃ b o,A=some ⟨b,o,none⟩/\S b/\w.cell? ⟨b,o+k,none⟩=some (.int .u8 (l.getD k 0)):=by
 obtain⟨_,A',c',hv,_,_,hx⟩:=h;injection hv with hA _ _;subst hA;obtain⟨b,o,e,hb,hu⟩:=hx zw;refine⟨b,o,e,hb,hu k _ ?_⟩;simp [kE,List.getElem?_eq_getElem hk]
theorem Byt.string{P:Program}(h:Byt S w v l)(src e:TypeId)(hs:P.underlying src=some (.slice e))(he:P.underlying e=some (.int .u8)) :
  ∀ dst,P.underlying dst=some .string->(convert src dst v).run P w = .ok (.string (strOfNums l)) w:=by
 obtain⟨hl,A,c,rfl,hn,hc,hx⟩:=h;intro dst hd;rcases Nat.eq_zero_or_pos l.length with h0|h0
 ·obtain rfl:l=[]:=List.eq_nil_of_length_eq_zero h0
  cases A with
  | none=>exact run_convert_bytes_nil w src e hs he _ c dst hd
  | some ad=>
   obtain⟨b,o,sp⟩:=ad;have:=run_bytesToString (P:=P) w ⟨b,o,sp⟩ 0 c [] (by simp [loadCells,loadCellsFrom]);show (convert src dst (.slice _ 0 c)).run P w=_;rw [run_convert_bytes_string w src dst e _ 0 c hs he hd,this];rfl
 ·obtain⟨b,o,rfl,hb,hu⟩:=hx h0
  exact run_convert_bytes_arg w src e hs he b o _ c l rfl (fun i hi=>hu i _ (by simp [kE,List.getElem?_eq_getElem hi])) dst hd
end
def Ext(w:World)(S S':Nat->Prop):Prop:=(∀ b,S b->S' b)/\∀ b,S' b->S b\/w.heap.size<=b
theorem Ext.refl(w:World)(S:Nat->Prop):Ext w S S:=⟨fun _ h=>h,fun _ h => .inl h⟩
theorem Ext.trans{w w1:World}{S S' S'':Nat->Prop}(h:Ext w S S')(hz:w.heap.size<=w1.heap.size)(k:Ext w1 S' S''):Ext w S S'':=
 ⟨fun b hb=>k.1 b (h.1 b hb),fun b hb=>by
  rcases k.2 b hb with h1|h1
  ·exact h.2 b h1
  ·exact .inr zw⟩
theorem Ext.off{w:World}{S S':Nat->Prop}(h:Ext w S S'){b:Nat}(hb:b<w.heap.size)(hn:¬ S b):¬ S' b:=fun hs=>by
 rcases h.2 b hs with h1|h1
 ·exact hn h1
 ·omega
end Go.Proofs.YtmgdbbbdhkfdmaaGreat
namespace Go.Proofs.YtmgdbbbdhkfdmaaGreat.Lay
set_option maxRecDepth 100000
open Go.RowKit Go.Deep
def eff(o:Oper):Bool:=match o.op with
 | .alloc _=>true
 | .buildSlice _ _ _=>true
 | .store _ _ _=>true
 | _=>false
def xJ(n:Nat)(o:Oper):Value:=match o.op with
 | .alloc _ => .pointer (some ⟨n,0,none⟩)
 | .buildSlice _ k _ => .slice (some ⟨n,0,none⟩) k k
 | _=>undef
def lay(n:Nat)(o:Oper):Oper:=if eff o then { o with op := .assign (.const (xJ n o)) } else o
theorem qeg{n:Nat}{o:Oper}(h:eff o=false):lay n o=o:=by unfold lay;simp [h]
theorem lay_eff{n:Nat}{o:Oper}(h:eff o=true):lay n o={ o with op := .assign (.const (xJ n o)) }:=by unfold lay;simp [h]
theorem qeh(n:Nat)(o:Oper):(lay n o).dst=o.dst:=by unfold lay;split <;> rfl
theorem qjr(n:Nat)(o:Oper):(lay n o).after=o.after:=by unfold lay;split <;> rfl
theorem qjs(n:Nat)(o:Oper):(lay n o).guard=o.guard:=by unfold lay;split <;> rfl
def lays(β:Nat->Nat)(l:List Oper)(k:Nat):List Oper:=match l with
 | []=>[]
 | o::r=>lay (β k) o::lays β r (k+1)
theorem qfp(β:Nat->Nat):∀(l:List Oper) (k i:Nat),(lays β l k)[i]?=(l[i]?).map (lay (β (k+i)))
 | [],_,_=>by simp [lays]
 | o::r,k,0=>by simp [lays]
 | o::r,k,i+1=>by
  have:=qfp β r (k+1) i;simp only [lays,List.getElem?_cons_succ,this];rw [show k+1+i=k+(i+1) by omega]
theorem qaf(β:Nat->Nat):∀(l:List Oper) (k:Nat),(lays β l k).length=l.length
 | [],_=>rfl
 | o::r,k=>by simp [lays,qaf β r (k+1)]
def dstB(ops:Array Oper):Bool:=(List.range ops.size).all fun i=>(List.range ops.size).all fun j=>i == j || (match ops[i]?,ops[j]? with
 | some a,some b=>a.dst == none || a.dst != b.dst
 | _,_=>true)
theorem qdj{ops:Array Oper}(h:dstB ops=true){i j:Nat}{a b:Oper}(hi:ops[i]?=some a)(hj:ops[j]?=some b)(hn:i≠j){d:Nat}(hd:a.dst=some d):b.dst≠some d:=by
 have h1:i<ops.size:=(Array.getElem?_eq_some_iff.1 hi).1;have h2:j<ops.size:=(Array.getElem?_eq_some_iff.1 hj).1;have h3:=List.all_eq_true.1 (List.all_eq_true.1 h i (List.mem_range.2 h1)) j (List.mem_range.2 h2);simp only [hi,hj,hd,Bool.or_eq_true,beq_iff_eq,bne_iff_ne,hn,false_or,reduceCtorEq] at h3;exact fun e=>h3 e.symm
def effB(md:Region.Mode)(ops:Array Oper):Bool:=(List.range ops.size).all fun i=>match ops[i]? with
 | some o=>!eff o || (o.guard == none && (List.range ops.size).all fun k=>match ops[k]? with
  | some q=>(match q.dst with
   | some d=>!(o.op.operands.toList.any fun x=>match x with | .tmp t=>t == d|_=>false) || o.after.any (fun e=>Region.binds md e && e.on == k)
   | none=>true)
  | none=>true)
 | none=>true
theorem qjt{md:Region.Mode}{ops:Array Oper}(h:effB md ops=true){i:Nat}{o:Oper}(hi:ops[i]?=some o)(he:eff o=true) :
  o.guard=none/\∀ k q d,ops[k]?=some q->q.dst=some d->Operand.tmp d∈o.op.operands->∃ e∈o.after,Region.binds md e=true/\e.on=k:=by
 have h1:i<ops.size:=(Array.getElem?_eq_some_iff.1 hi).1;have h3:=List.all_eq_true.1 h i (List.mem_range.2 h1);simp only [hi,he,Bool.not_true,Bool.false_or,Bool.and_eq_true,beq_iff_eq] at h3;refine⟨h3.1,fun k q d hk hd hm=>?_⟩;have h2:k<ops.size:=(Array.getElem?_eq_some_iff.1 hk).1;have h4:=List.all_eq_true.1 h3.2 k (List.mem_range.2 h2);have hm':(o.op.operands.toList.any fun x=>match x with | .tmp t=>t == d|_=>false)=true:=
  List.any_eq_true.2 ⟨.tmp d,by simpa using hm,zs⟩
 simp only [hk,hd] at h4;rw [hm'] at h4;simp only [Bool.not_true,Bool.false_or] at h4;obtain⟨e,he,hb⟩:=Array.any_eq_true'.1 h4;simp only [Bool.and_eq_true,beq_iff_eq] at hb;exact⟨e,he,hb.1,hb.2⟩
section
variable {P:Program} {md:Region.Mode} {ops:Array Oper} {C:World->Prop} {A:Act}
theorem qfq(a:Act)(d:Nat){x:Option Tmp}(v:Value)(h:x≠some d):(a.put x v).tmps.getD d undef=a.tmps.getD d undef:=by
 cases x with
 | none=>rfl
 | some y=>
  have:y≠d:=fun e=>h (by rw [e]);simp [Act.put,Array.getElem?_setIfInBounds_ne this]
theorem qbe(a:Act)(d:Nat)(v:Value)(h:d<a.tmps.size):(a.put (some d) v).tmps.getD d undef=v:=by
 simp [Act.put,h]
theorem xu(a:Act)(d:Nat)(v:Value)(h:¬ d<a.tmps.size):a.put (some d) v=a:=by
 have:a.tmps.setIfInBounds d v=a.tmps:=by
  apply Array.ext_getElem?;intro i;by_cases hi:d=i
  ·subst hi
   simp [Array.getElem?_setIfInBounds,h]
  ·rw [Array.getElem?_setIfInBounds_ne hi]
 simp [Act.put,this]
theorem yj{i j:Nat}{l:Array Bool}(hi:l.getD i true=false)(h:(l.setIfInBounds i true).getD j true=false):j≠i/\l.getD j true=false:=by
 by_cases e:j=i
 ·subst e
  exfalso;by_cases hlt:j<l.size
  ·simp [hlt] at h
  ·simp [Array.getElem?_eq_none (Nat.le_of_not_lt hlt)] at hi
 ·exact⟨e,by rwa [getD_set_ne true (Ne.symm e)] at h⟩
theorem xx(d:Nat):∀(fuel:Nat) (l:Array Bool) (a:Act),wpAnyQ P md ops C (fun a'=>a'=A) fuel l a->(∀ j o,ops[j]?=some o->l.getD j true=false->o.dst≠some d)->a.tmps.getD d undef=A.tmps.getD d undef
 | 0,_,_,h,_=>by rw [h.2]
 | fuel+1,l,a,h,hn=>by
  cases hr:Region.ready md ops l with
  | nil=>rw [h.1 hr]
  | cons i r=>
   have hi:i∈Region.ready md ops l:=by rw [hr];exact List.mem_cons_self
   obtain⟨hun,o,ho,_⟩:=mem_ready.1 hi;have h1:=h.2 i hi;obtain⟨v,_,hv⟩:=yieldsIn_of_qOp ho h1;have:=xx d fuel _ _ hv (fun j q hq hl=>by
    obtain⟨_,h3⟩:=yj hun hl;exact hn j q hq h3)
   rw [qfq a d v (hn i o ho hun)] at this;exact this
end
def yl(o:Oper):Bool:=match o.op with
 | .move _ | .assign _ | .build _ _ | .load _ _ | .unOp _ _ _ | .convert _ _ _ | .slice _ _ _ _ _ | .fieldAddr _ _ _ | .field _ _ _ | .indexAddr _ _ _ | .index _ _ _ | .extract _ _ | .binOp _ _ _ _ _=>false
 | _=>true
theorem qha{P:Program}{s:Sem Value}{w w':World}{f:FuncId}{args:Array Value}(h:(do let x <- s;pure (Next.value x):Sem Next).run P w = .ok (.enter f args) w'):False:=by
 rw [Sem.run_bind] at h;cases hr:s.run P w with
 | ok x w1=>
  rw [hr,Result.andThen_ok,Sem.run_pure] at h;injection h with h _;cases h
 | halt x w1=>
  rw [hr] at h;simp [Result.andThen] at h
theorem qlq{P:Program}{o:Oper}{a:Act}{w w':World}{f:FuncId}{args:Array Value}(h:yl o=false):(execOp a.eval o).run P w ≠ .ok (.enter f args) w':=by
 intro he;unfold yl at h;unfold execOp at he;cases hop:o.op <;> rw [hop] at h he <;> first
  | (cases h;done)|(dsimp only at he;rw [Sem.run_pure] at he;injection he with he _;cases he)
  | exact qha he
def upd(β:Nat->Nat)(i n:Nat):Nat->Nat:=fun k=>if k=i then n else β k
theorem upd_same(β:Nat->Nat)(i n:Nat):upd β i n i=n:=by simp [upd]
theorem upd_ne(β:Nat->Nat){i k:Nat}(n:Nat)(h:k≠i):upd β i n k=β k:=by simp [upd,h]
def Agree(l:Array Bool)(β β':Nat->Nat):Prop:=∀ i,l.getD i false=true->β' i=β i
theorem Agree.rfl'(l:Array Bool)(β:Nat->Nat):Agree l β β:=fun _ _=>rfl
theorem qei{l:Array Bool}{i:Nat}(h:l.getD i true=false):l.getD i false=false:=by
 by_cases hlt:i<l.size
 ·simp [hlt] at h |-;exact h
 ·simp [Array.getElem?_eq_none (Nat.le_of_not_lt hlt)] at h
theorem Agree.less{l:Array Bool}{β β':Nat->Nat}{i n:Nat}(h:Agree (l.setIfInBounds i true) (upd β i n) β')(hi:l.getD i true=false):Agree l β β'/\β' i=n:=by
 have hs:i<l.size:=by
  rcases Nat.lt_or_ge i l.size with h|h
  ·exact h
  ·simp [Array.getElem?_eq_none h] at hi
 refine⟨fun k hk=>?_,?_⟩
 ·have hne:k≠i:=fun e=>by rw [e,qei hi] at hk;cases hk
  rw [h k (getD_set_true hk),upd_ne β n hne]
 ·rw [h i (by simp [hs]),upd_same]
def Cl(X:World->Prop):Prop:=∀ w w',X w->Fr [] w w'->X w'
theorem Cl.fr(w:World):Cl (fun W=>Fr [] w W):=fun _ _ h f=>h.trans f zs
section
variable {P:Program} {md:Region.Mode} {l:List Oper} {Q:Exit->Act->World->Prop} {C:World->Prop} {A:(Nat->Nat)->Act} {J:(Nat->Nat)->Array Bool->World->Prop}
def jF(β:Nat->Nat)(l:List Oper):Array Oper:=(lays β l 0).toArray
theorem qag(β:Nat->Nat)(l:List Oper)(i:Nat):(jF β l)[i]?=(l.toArray[i]?).map (lay (β i)):=by
 have:=qfp β l 0 i;simp only [Nat.zero_add] at this;simpa [jF] using this
theorem qar(β:Nat->Nat)(l:List Oper):(jF β l).size=l.toArray.size:=by simp [jF,qaf]
theorem y8(β:Nat->Nat)(l:List Oper)(s:Array Bool):Region.ready md (jF β l) s=Region.ready md l.toArray s:=by
 unfold Region.ready;rw [qar];congr 1;funext i;rw [qag];cases l.toArray[i]? with
 | none=>rfl
 | some o=>simp [qjr]
theorem vK(β:Nat->Nat)(l:List Oper)(t:Array Value):yielded (jF β l) t=yielded l.toArray t:=by
 funext j;unfold yielded;rw [qag];cases l.toArray[j]? with
 | none=>rfl
 | some o=>simp [qeh]
theorem qhb(n:Nat)(o:Oper)(g:Nat->Option Bool):Region.wanted (lay n o) g=Region.wanted o g:=by
 unfold Region.wanted;rw [qjs]
theorem qbw{β:Nat->Nat}{l:List Oper}{j:Nat}{o:Oper}(h:(jF β l)[j]?=some o):∃ q,l.toArray[j]?=some q/\o.dst=q.dst:=by
 rw [qag] at h;cases hq:l.toArray[j]? with
 | none=>rw [hq] at h;cases h
 | some q=>rw [hq] at h;injection h with h;subst h;exact⟨q,rfl,qeh _ _⟩
theorem jO{β:Nat->Nat}{C C':World->Prop}{fuel:Nat}{s:Array Bool}{a:Act}{i:Nat}{o:Oper}(hd:dstB l.toArray=true)(ho:l.toArray[i]?=some o)(hun:s.getD i true=false){v v':Value}{B B':Act}
  (h:wpAnyQ P md (jF β l) C (fun a'=>a'=B) fuel (s.setIfInBounds i true) (a.put o.dst v)) (h':wpAnyQ P md (jF β l) C' (fun a'=>a'=B') fuel (s.setIfInBounds i true) (a.put o.dst v')) (hB:∀ d,o.dst=some d->B.tmps.getD d undef=B'.tmps.getD d undef):a.put o.dst v=a.put o.dst v':=by
 cases hdd:o.dst with
 | none=>rfl
 | some d=>
  rw [hdd] at h h';by_cases hlt:d<a.tmps.size
  ·have hno:∀ j q,(jF β l)[j]?=some q->(s.setIfInBounds i true).getD j true=false->q.dst≠some d:=fun j q hq hl=>by
    obtain⟨q',hq',e⟩:=qbw hq;obtain⟨h3,_⟩:=yj hun hl;rw [e];exact qdj hd ho hq' (Ne.symm h3) hdd
   have e1:=xx d _ _ _ h hno;have e2:=xx d _ _ _ h' hno;rw [qbe a d _ hlt] at e1 e2;rw [e1,e2,hB d hdd]
  ·rw [xu a d v hlt,xu a d v' hlt]
theorem vw(hd:dstB l.toArray=true)(he:effB md l.toArray=true)
  (hI:∀(i:Nat) (o:Oper) (d:Nat),l.toArray[i]?=some o->eff o=false->yl o=true->o.dst=some d->∀ β β',(A β).tmps.getD d undef=(A β').tmps.getD d undef)
  (J1:∀ β s w w',C w->J β s w->Fr [] w w'->J β s w')
  (J2:∀ β s w (i:Nat) (o:Oper),l.toArray[i]?=some o->eff o=false->J β s w->J β (s.setIfInBounds i true) w)
  (J3:∀ β s w (a:Act) (i:Nat) (o:Oper),l.toArray[i]?=some o->eff o=true->i∈Region.ready md l.toArray s->C w->J β s w ->
   (∀ β',Agree s β β'->∀ t,Operand.tmp t∈o.op.operands->a.tmps.getD t undef=(A β').tmps.getD t undef) ->
   ∃ r w',(execOp a.eval o).run P w = .ok r w'/\(r = .value (xJ w.heap.size o)\/(r = .skip/\o.dst=none))/\C w'/\J (upd β i w.heap.size) (s.setIfInBounds i true) w')
  (J4:∀ β s w,C w->J β s w->Region.ready md l.toArray s=[]->Q .normal (A β) w) :
  ∀(fuel:Nat) (s:Array Bool) (a:Act) (w:World) (β:Nat->Nat),C w->J β s w ->
   (∀ β',Agree s β β'->∀ X,Cl X->wpAnyQ P md (jF β' l) (fun W=>C W/\X W) (fun a'=>a'=A β') fuel s a)->wpAny P md l.toArray Q fuel s a w
 | 0,s,a,w,β,hc,hj,h=>by
  have h1:=h β (Agree.rfl' s β) (fun _=>True) (fun _ _ _ _=>trivial);have h2:=h1.1;rw [y8] at h2;exact⟨h2,by rw [h1.2];exact J4 β s w hc hj h2⟩
 | fuel+1,s,a,w,β,hc,hj,h=>by
  refine⟨fun h0=>?_,fun i hi=>?_⟩
  ·have h1:=h β (Agree.rfl' s β) (fun _=>True) (fun _ _ _ _=>trivial)
   have h2:=h1.1;rw [y8] at h2;rw [h2 h0];exact J4 β s w hc hj h0
  ·obtain⟨hun,o,ho,hall⟩:=mem_ready.1 hi
   have step:∀ β',Agree s β β'->∀ X,Cl X->∃ v,YieldsIn P (jF β' l) (fun W=>C W/\X W) (lay (β' i) o) v a/\wpAnyQ P md (jF β' l) (fun W=>C W/\X W) (fun a'=>a'=A β') fuel (s.setIfInBounds i true) (a.put o.dst v):=fun β' hb X hX=>by
    have h1:=(h β' hb X hX).2 i (by rw [y8];exact hi);have ho':(jF β' l)[i]?=some (lay (β' i) o):=(by rw [qag,ho];rfl);obtain⟨v,h2,h3⟩:=yieldsIn_of_qOp ho' h1;rw [qeh] at h3;exact⟨v,h2,h3⟩
   have hfr:=Cl.fr w;have hcw:C w/\Fr [] w w:=⟨hc,Fr.refl _ _⟩;unfold wpOp;rw [ho];dsimp only;by_cases hef:eff o=true
   ·obtain⟨hg,hops⟩:=qjt he ho hef
    have hw:Region.wanted o (yielded l.toArray a.tmps)=true:=(by simp [Region.wanted,hg]);rw [if_pos hw];refine .inl ?_;obtain⟨r,w',hrun,hr,hc',hj'⟩:=J3 β s w a i o ho hef hi hc hj (fun β' hb t ht=>by
     refine xx t _ _ _ (h β' hb (fun _=>True) (fun _ _ _ _=>trivial)) (fun j q hq hl hqd=>?_);obtain⟨q',hq',e⟩:=qbw hq;obtain⟨ed,hed,hb1,hb2⟩:=hops j q' t hq' (by rw [<- e];exact hqd) ht;have:=hall ed hed hb1;rw [hb2,qei hl] at this;cases this)
    have key:∀ β',Agree (s.setIfInBounds i true) (upd β i w.heap.size) β'->∀ X,Cl X->wpAnyQ P md (jF β' l) (fun W=>C W/\X W) (fun a'=>a'=A β') fuel (s.setIfInBounds i true) (a.put o.dst (xJ w.heap.size o)):=fun β' hb X hX=>by
     obtain⟨hb1,hb2⟩:=hb.less hun;obtain⟨v1,y1,n1⟩:=step β' hb1 X hX;obtain⟨v2,y2,n2⟩:=step β' hb1 _ hfr;have e:v2=xJ w.heap.size o:=by
      rcases y2 with ⟨_,hy⟩|⟨hy,_⟩
      ·have:=hy w hcw
       unfold Oper.quietAt at this;rw [BigFrame.run_assign (.const (xJ (β' i) o)) (by rw [lay_eff hef])] at this;rw [<- this.2,hb2];rfl
      ·rw [qhb,vK,hw] at hy
       cases hy
     rw [e] at n2;rw [<- jO hd ho hun n1 n2 (fun _ _=>rfl)];exact n1
    unfold Oper.wp;rw [hrun];rcases hr with rfl|⟨rfl,hdn⟩
    ·exact vw hd he hI J1 J2 J3 J4 fuel _ _ w' _ hc' hj' key
    ·simp only [Oper.upon]
     rw [hdn] at key |-
     exact vw hd he hI J1 J2 J3 J4 fuel _ _ w' _ hc' hj' key
   ·have hef:eff o=false:=by simpa using hef
    have hj2:=J2 β s w i o ho hef hj;have agr:∀ β',Agree (s.setIfInBounds i true) β β'->Agree s β β':=fun β' hb k hk=>hb k (getD_set_true hk);obtain⟨v0,y0,n0⟩:=step β (Agree.rfl' s β) _ hfr;rw [qeg hef] at y0;by_cases hw:Region.wanted o (yielded l.toArray a.tmps)=true
    ·rw [if_pos hw]
     refine .inl ?_;rcases y0 with ⟨_,hy⟩|⟨hy,_⟩
     ·have h3:=hy w hcw
      unfold Oper.quietAt at h3;unfold Oper.wp;have key:∀ u,(∀ β' v2,Agree s β β'->YieldsIn P (jF β' l) (fun W=>C W/\Fr [] w W) o v2 a->v2=u)->∀ β',Agree (s.setIfInBounds i true) β β'->∀ X,Cl X->wpAnyQ P md (jF β' l) (fun W=>C W/\X W) (fun a'=>a'=A β') fuel (s.setIfInBounds i true) (a.put o.dst u):=fun u hu β' hb X hX=>by
       obtain⟨v1,y1,n1⟩:=step β' (agr β' hb) X hX;obtain⟨v2,y2,n2⟩:=step β' (agr β' hb) _ hfr;rw [qeg hef] at y2;have e:=hu β' v2 (agr β' hb) y2;rw [e] at n2;rw [<- jO hd ho hun n1 n2 (fun _ _=>rfl)];exact n1
      generalize hr:(execOp a.eval o).run P w=r at *
      cases r with
      | ok n w'=>
       cases n <;> simp only [Oper.quietUpon] at h3 <;> simp only [Oper.upon];case value u=>
        obtain⟨e1,e2⟩:=h3;rw [e1];refine vw hd he hI J1 J2 J3 J4 fuel _ _ w β hc hj2 (key u (fun β' v2 _ y2=>?_));rcases y2 with ⟨_,hy2⟩|⟨hy2,_⟩
        ·have:=hy2 w hcw
         unfold Oper.quietAt at this;rw [hr] at this;exact this.2.symm
        ·rw [vK,hw] at hy2
         cases hy2
       case skip=>
        obtain⟨e1,e2⟩:=h3;rw [e1];refine vw hd he hI J1 J2 J3 J4 fuel _ _ w β hc hj2 (key undef (fun β' v2 _ y2=>?_));rcases y2 with ⟨_,hy2⟩|⟨hy2,_⟩
        ·have:=hy2 w hcw
         unfold Oper.quietAt at this;rw [hr] at this;exact this.2
        ·rw [vK,hw] at hy2
         cases hy2
       case enter f args=>
        obtain⟨e1,hcl⟩:=h3;rw [e1];have hna:yl o=true:=by
         cases hmc:yl o with
         | true=>rfl
         | false=>exact absurd hr (qlq hmc)
        refine hcl.mono fun e w'' ⟨hee,hcc,hff⟩=>?_;subst hee;refine vw hd he hI J1 J2 J3 J4 fuel _ _ w'' β hcc (J1 β _ w w'' hc hj2 hff) (fun β' hb X hX=>?_);obtain⟨v1,y1,n1⟩:=step β' (agr β' hb) X hX;have e5:a.put o.dst v1=a.put o.dst v0:=by
         cases hdd:o.dst with
         | none=>rfl
         | some d=>
          by_cases hlt:d<a.tmps.size
          ·have hno:∀ β'' j q,(jF β'' l)[j]?=some q->(s.setIfInBounds i true).getD j true=false->q.dst≠some d:=fun β'' j q hq hl=>by
            obtain⟨q',hq',e⟩:=qbw hq;obtain⟨h3,_⟩:=yj hun hl;rw [e];exact qdj hd ho hq' (Ne.symm h3) hdd
           rw [hdd] at n1 n0;have q1:=xx d _ _ _ n1 (hno _);have q0:=xx d _ _ _ n0 (hno _);rw [qbe a d _ hlt] at q1 q0;rw [q1,q0,hI i o d ho hef hna hdd β' β]
          ·rw [xu a d v1 hlt,xu a d v0 hlt]
        rw [<- e5];exact n1
      | halt x w'=>simp only [Oper.quietUpon] at h3
     ·rw [vK,hw] at hy
      cases hy
    ·rw [if_neg hw]
     refine vw hd he hI J1 J2 J3 J4 fuel _ _ w β hc hj2 (fun β' hb X hX=>?_);obtain⟨v1,y1,n1⟩:=step β' (agr β' hb) X hX;rw [qeg hef] at y1;rcases y1 with ⟨hy,_⟩|⟨_,e⟩
     ·rw [vK] at hy
      exact absurd hy hw
     ·rw [e] at n1
      exact n1
end
end Go.Proofs.YtmgdbbbdhkfdmaaGreat.Lay
namespace Go.Proofs.YtmgdbbbdhkfdmaaGreat.Win
set_option maxRecDepth 100000
open Go.RowKit
theorem yt(fn:Fn)(first cap:Array Value)(w:World):(Instr.makeFunc fn first cap).run Tryz.prog w = .ok (.func fn first cap) w:=rfl
abbrev ptr(g:Nat):Value := .pointer (some ⟨g,0,none⟩)
structure Wn where
 a:Int
 s:Int
 m:Int
 l:Int
def Wn.cells(x:Wn):Array Value:=#[.int .i64 x.a, .int .i64 x.s, .int .i64 x.m, .int .i64 x.l]
def Win(w:World)(g:Nat)(x:Wn)(h:Bool):Prop:=Blk w g 107 #[.int .i64 x.a, .int .i64 x.s, .int .i64 x.m, .int .i64 x.l, .bool h]
section
variable {w:World} {g:Nat} {x:Wn} {h:Bool} (m:Win w g x h)
include m
theorem Win.c0:w.cell? ⟨g,0,none⟩=some (.int .i64 x.a):=by simpa using Blk.cell m 0
theorem Win.c1:w.cell? ⟨g,1,none⟩=some (.int .i64 x.s):=by simpa using Blk.cell m 1
theorem Win.c2:w.cell? ⟨g,2,none⟩=some (.int .i64 x.m):=by simpa using Blk.cell m 2
theorem Win.c3:w.cell? ⟨g,3,none⟩=some (.int .i64 x.l):=by simpa using Blk.cell m 3
theorem Win.c4:w.cell? ⟨g,4,none⟩=some (.bool h):=by simpa using Blk.cell m 4
theorem Win.fz(i:Nat):w.frozen? ⟨g,i,none⟩=false:=Blk.frozen m i
end
theorem qju(g j v:Nat)(p n:Int)(cs:Array Value)(w:World)(hB:Blk w g 107 cs)(hp:cs[j]?=some (.int .i64 p))(hv:w.cell? ⟨v,0,none⟩=some (.pointer (some ⟨g,j,none⟩))) :
  Calls Tryz.prog 133 #[.int .i64 n, .pointer (some ⟨v,0,none⟩)] w fun e w'=>e = .returned (.tuple #[])/\Fr [g] w w'/\Blk w' g 107 (cs.setIfInBounds j (.int .i64 (max p n))):=by
 have hc:w.cell? ⟨g,j,none⟩=some (.int .i64 p):=by rw [<- hp];exact Blk.cell hB j
 have hf:w.frozen? ⟨g,j,none⟩=false:=Blk.frozen hB j;go_enter Tryz.func133,Tryz.ntmps133;go_wp2_with fail
 go_region
 all_goals go_wp2
 all_goals go_end0
 all_goals exact⟨rfl,Fr.setCell (Fr.refl _ _).drew zs _,Blk.qO (Blk.drew hB) j _⟩
theorem yB(g j b:Nat)(p n:Int)(cs:Array Value)(w:World)(hB:Blk w g 107 cs)(hp:cs[j]?=some (.int .i64 p))(hb:w.cell? ⟨b,0,none⟩=some (.int .i64 n)) :
  Calls Tryz.prog 119 #[.pointer (some ⟨g,j,none⟩), .slice (some ⟨b,0,none⟩) 1 1] w fun e w'=>e = .returned (.tuple #[])/\Fr [g] w w'/\Blk w' g 107 (cs.setIfInBounds j (.int .i64 (max p n))):=by
 have hmf:=yt;have hc:w.cell? ⟨g,j,none⟩=some (.int .i64 p):=by rw [<- hp];exact Blk.cell hB j
 have hf:w.frozen? ⟨g,j,none⟩=false:=Blk.frozen hB j;have hlt:=hB.lt;go_enter Tryz.func119,Tryz.ntmps119;have hbl:b<w.heap.size:=World.block_lt_of_cell? w _ hb;go_wp2_with fail
 refine wp_loop_rounds 2 ?_;rw [rounds_succ];go_wp2_with fail
 have hA:Blk (w.alloc (.cells #[.pointer (some ⟨g,j,none⟩)] 113)) g 107 cs:=Blk.alloc hB _;refine (qju g j _ p n cs _ hA hp (by simp [go_sem])).mono ?_;rintro e w1 ⟨rfl,f1,b1⟩;have f2:Fr [g] w w1:=((Fr.refl _ _).alloc _).trans f1 zs;go_wp2_with fail
 rw [rounds_succ];go_wp2_with fail
 go_end0
 exact⟨rfl,f2,b1⟩
def qK(x:Wn):Int:=max 0 (x.l - x.s)
def qQ(x:Wn)(n:Int):Wn × Int × Int:=if n<0 then (x,0,2) else if qK x<n then (x,0,231) else (⟨x.a,x.s+n,max x.m (x.s+n),x.l⟩,x.s,0)
def je(x:Wn)(u r:Int):Wn × Int × Int:=if u<0\/r<0\/65535<r then (x,0,2) else if x.m<u then (x,0,230) else if u<x.a then (x,0,0) else (⟨max x.a u,max x.s u,x.m,max x.l (u+r)⟩,u - x.a,0)
def zeroV(x:Wn):Bool:=x.l == x.a && x.m == x.a
def kX(x:Wn):Wn × Int × Int:=if zeroV x then (⟨x.a,x.s,max x.m (x.a+1),x.l⟩,x.a,0) else (x,0,231)
def Inv(B:Int)(x:Wn):Prop:=0<=x.a/\x.a<=x.s/\x.s<=x.m/\x.m<=x.l+1/\x.l<=B
theorem zC(g:Nat)(x:Wn)(h:Bool)(w:World)(m:Win w g x h):Calls Tryz.prog 84 #[ptr g] w fun e w'=>e = .returned (.bool (!h))/\w=w':=by
 have c4:=m.c4;go_enter Tryz.func84,Tryz.ntmps84;go_wp2
 go_ret;exact⟨rfl,rfl⟩
theorem qlr(g:Nat)(x:Wn)(w:World)(B:Int)(hB:B<=1000000000)(hi:Inv B x)(m:Win w g x true):Calls Tryz.prog 94 #[ptr g] w fun e w'=>e = .returned (.int .i64 (qK x))/\∃ k,w'=w.drewN k:=by
 obtain⟨i0,i1,i2,i3,i4⟩:=hi;have c4:=m.c4;have c1:=m.c1;have c3:=m.c3;unfold qK;go_enter Tryz.func94,Tryz.ntmps94;go_wp2_with (go_at_call 84;refine (zC _ _ _ _ m).mono ?_;rintro e w' ⟨rfl,rfl⟩)
 go_quiet (fail)
 go_wp2
 go_ret;exact⟨rfl,_,rfl⟩
theorem qls(g:Nat)(x:Wn)(w:World)(m:Win w g x true):Calls Tryz.prog 98 #[ptr g] w fun e w'=>e = .returned (.bool (zeroV x))/\∃ k,w'=w.drewN k:=by
 have c4:=m.c4;have c0:=m.c0;have c2:=m.c2;have c3:=m.c3;by_cases h1:x.l=x.a
 ·by_cases h2:x.m=x.a
  ·have e:zeroV x=true:=by simp [zeroV,h1,h2]
   have d1:(x.l == x.a)=true:=by simp [h1]
   have d2:(x.m == x.a)=true:=by simp [h2]
   rw [e];clear h1 h2 e;go_enter Tryz.func98,Tryz.ntmps98;go_wp2_with fail
   go_quiet ((go_at_call 84;exact zY (zC _ _ _ _ (Blk.drewN m _))))
   go_wp2
   go_ret;exact⟨rfl,_,rfl⟩
  ·have e:zeroV x=false:=by simp [zeroV,h1,h2]
   have d1:(x.l == x.a)=true:=by simp [h1]
   have d2:(x.m == x.a)=false:=by simp [h2]
   rw [e];clear h1 h2 e;go_enter Tryz.func98,Tryz.ntmps98;go_wp2_with fail
   go_quiet ((go_at_call 84;exact zY (zC _ _ _ _ (Blk.drewN m _))))
   go_wp2
   go_ret;exact⟨rfl,_,rfl⟩
 ·have e:zeroV x=false:=by simp [zeroV,h1]
  have d1:(x.l == x.a)=false:=by simp [h1]
  rw [e];clear h1 e;go_enter Tryz.func98,Tryz.ntmps98;go_wp2_with fail
  go_quiet ((go_at_call 84;exact zY (zC _ _ _ _ (Blk.drewN m _))))
  go_wp2
  go_ret;exact⟨rfl,_,rfl⟩
theorem Inv.bd{B:Int}{x:Wn}(h:Inv B x):0<=x.a/\x.a<=x.s/\x.s<=x.m/\x.m<=x.l+1/\x.l<=B:=h
theorem qej(g:Nat)(x:Wn)(w:World)(B:Int)(hB:B<=1000000000)(hi:Inv B x)(m:Win w g x true):Calls Tryz.prog 94 #[ptr g] w fun e w'=>e = .returned (.int .i64 (qK x))/\Fr [] w w':=
 (qlr g x w B hB hi m).mono fun _ _ ⟨h,k,hk⟩=>⟨h,by rw [hk];exact (Fr.refl _ _).drewN k⟩
theorem qit(g:Nat)(x:Wn)(w:World)(m:Win w g x true):Calls Tryz.prog 98 #[ptr g] w fun e w'=>e = .returned (.bool (zeroV x))/\Fr [] w w':=
 (qls g x w m).mono fun _ _ ⟨h,k,hk⟩=>⟨h,by rw [hk];exact (Fr.refl _ _).drewN k⟩
theorem qlt(g:Nat)(x:Wn)(n:Int)(w:World)(B:Int)(hB:B<=1000000000)(hi:Inv B x)(m:Win w g x true) :
  Calls Tryz.prog 95 #[ptr g, .int .i64 n] w fun e w'=>e = .returned (.tuple #[.int .i64 (qQ x n).2.1, .int .i64 (qQ x n).2.2])/\Fr [g] w w'/\Win w' g (qQ x n).1 true:=by
 have hi':=hi;obtain⟨i0,i1,i2,i3,i4⟩:=hi;unfold qQ;by_cases h1:n<0
 ·rw [if_pos h1]
  go_enter Tryz.func95,Tryz.ntmps95;go_wp2_with fail
  refine qP 0 rfl ?_;go_wp2_with (go_at_call 84;refine (zC _ _ _ _ m).mono ?_;rintro e w' ⟨rfl,rfl⟩)
  apply wp_goto;refine ja _ _ ?_;go_wp2
  rw [Exit.noGoto_ret];go_ret2
  exact⟨rfl,Fr.refl _ _,m⟩
 ·rw [if_neg h1]
  by_cases h2:qK x<n
  ·rw [if_pos h2]
   go_enter Tryz.func95,Tryz.ntmps95;go_wp2_with fail
   refine qP 0 rfl ?_;go_wp2_with (go_at_call 84;refine (zC _ _ _ _ m).mono ?_;rintro e w' ⟨rfl,rfl⟩)
   refine (qej _ _ _ B hB hi' m).mono ?_;rintro e w1 ⟨rfl,f1⟩;go_wp2_with fail
   apply wp_goto;refine ja _ _ ?_;go_wp2
   rw [Exit.noGoto_ret];go_ret2
   exact⟨rfl,f1.mono zs,Blk.fr m f1 zs⟩
  ·rw [if_neg h2]
   have hroom:x.s+n<=max x.s x.l:=by unfold qK at h2;omega
   go_enter Tryz.func95,Tryz.ntmps95;go_wp2_with fail
   refine qP 0 rfl ?_;go_wp2_with (go_at_call 84;refine (zC _ _ _ _ m).mono ?_;rintro e w' ⟨rfl,rfl⟩)
   refine (qej _ _ _ B hB hi' m).mono ?_;rintro e w1 ⟨rfl,f1⟩;have m1:Win w1 g x true:=Blk.fr m f1 zs;have c1:=m1.c1;have z1:=m1.fz 1;go_wp2_with fail
   have m2:Blk (w1.setCell ⟨g,1,none⟩ (.int .i64 (x.s+n))) g 107 _:=Blk.qO m1 1 (.int .i64 (x.s+n));have f2:Fr [g] w (w1.setCell ⟨g,1,none⟩ (.int .i64 (x.s+n))):=Fr.setCell (f1.mono zs) zs _;generalize w1.setCell ⟨g,1,none⟩ (.int .i64 (x.s+n))=w2 at *
   have hs2:w2.cell? ⟨g,1,none⟩=some (.int .i64 (x.s+n)):=by have:=Blk.cell m2 1;simpa using this
   go_region_held3 (fun w'=>w'.cell? ⟨g,1,none⟩=some (.int .i64 (x.s+n))) (go_keep) (first|(go_at_call 119;refine (yB g 2 _ x.m (x.s+n) _ _ (by exact Blk.alloc (Blk.drew m2) _) rfl ?_).mono ?_;(simp [go_sem]);rintro e w3 ⟨rfl,f3,m3⟩;have c13:w3.cell? ⟨g,1,none⟩=some (.int .i64 (x.s+n)):=(by have:=Blk.cell m3 1;simpa using this)))
   have f4:Fr [g] w w3:=((f2.drew).alloc _).trans f3 zs;have m4:Win w3 g ⟨x.a,x.s+n,max x.m (x.s+n),x.l⟩ true:=(by simpa [Win] using m3);go_wp2
   rw [vZ];go_ret2
   exact⟨rfl,f4,m4⟩
theorem ack_no1(g:Nat)(x:Wn)(u r:Int)(w:World)(m:Win w g x true)(h:u<0\/r<0\/65535<r) :
  Calls Tryz.prog 113 #[ptr g, .int .i64 u, .int .i64 r] w fun e w'=>e = .returned (.tuple #[.int .i64 0, .int .i64 2])/\w=w':=by
 by_cases a:u<0
 ·go_enter Tryz.func113,Tryz.ntmps113
  go_wp2_with fail
  refine qP 0 rfl ?_;go_wp2_with (go_at_call 84;refine (zC _ _ _ _ m).mono ?_;rintro e w' ⟨rfl,rfl⟩)
  apply wp_goto;refine ja _ _ ?_;go_wp2
  rw [Exit.noGoto_ret];go_ret2
  exact⟨rfl,rfl⟩
 by_cases b:r<0
 ·go_enter Tryz.func113,Tryz.ntmps113
  go_wp2_with fail
  refine qP 0 rfl ?_;go_wp2_with (go_at_call 84;refine (zC _ _ _ _ m).mono ?_;rintro e w' ⟨rfl,rfl⟩)
  apply wp_goto;refine ja _ _ ?_;go_wp2
  rw [Exit.noGoto_ret];go_ret2
  exact⟨rfl,rfl⟩
 have c:65535<r:=zw;clear h;go_enter Tryz.func113,Tryz.ntmps113;go_wp2_with fail
 refine qP 0 rfl ?_;go_wp2_with (go_at_call 84;refine (zC _ _ _ _ m).mono ?_;rintro e w' ⟨rfl,rfl⟩)
 apply wp_goto;refine ja _ _ ?_;go_wp2
 rw [Exit.noGoto_ret];go_ret2
 exact⟨rfl,rfl⟩
theorem ack_no2(g:Nat)(x:Wn)(u r:Int)(w:World)(m:Win w g x true)(h0:0<=u)(h1:0<=r)(h2:r<=65535)(h:x.m<u) :
  Calls Tryz.prog 113 #[ptr g, .int .i64 u, .int .i64 r] w fun e w'=>e = .returned (.tuple #[.int .i64 0, .int .i64 230])/\w=w':=by
 have c2:=m.c2;go_enter Tryz.func113,Tryz.ntmps113;go_wp2_with fail
 refine qP 0 rfl ?_;go_wp2_with (go_at_call 84;refine (zC _ _ _ _ m).mono ?_;rintro e w' ⟨rfl,rfl⟩)
 apply wp_goto;refine ja _ _ ?_;go_wp2
 rw [Exit.noGoto_ret];go_ret2
 exact⟨rfl,rfl⟩
theorem ack_old(g:Nat)(x:Wn)(u r:Int)(w:World)(m:Win w g x true)(h0:0<=u)(h1:0<=r)(h2:r<=65535)(h:u<=x.m)(h':u<x.a) :
  Calls Tryz.prog 113 #[ptr g, .int .i64 u, .int .i64 r] w fun e w'=>e = .returned (.tuple #[.int .i64 0, .int .i64 0])/\w=w':=by
 have c2:=m.c2;have c0:=m.c0;have hh:¬ x.m<u:=zw;go_enter Tryz.func113,Tryz.ntmps113;go_wp2_with fail
 refine qP 0 rfl ?_;go_wp2_with (go_at_call 84;refine (zC _ _ _ _ m).mono ?_;rintro e w' ⟨rfl,rfl⟩)
 try rw [vZ]
 go_ret2
 exact⟨rfl,rfl⟩
theorem ack_yes(g:Nat)(x:Wn)(u r:Int)(w:World)(m:Win w g x true)(h0:0<=u)(h1:0<=r)(h2:r<=65535)(h:u<=x.m)(h':x.a<=u)(ha:0<=x.a)(hm:x.m<=1000000001) :
  Calls Tryz.prog 113 #[ptr g, .int .i64 u, .int .i64 r] w fun e w'=>e = .returned (.tuple #[.int .i64 (u - x.a), .int .i64 0])/\Fr [g] w w'/\Win w' g ⟨max x.a u,max x.s u,x.m,max x.l (u+r)⟩ true:=by
 have c2:=m.c2;have c0:=m.c0;have hh:¬ x.m<u:=zw;have hh':¬ u<x.a:=zw;go_enter Tryz.func113,Tryz.ntmps113;go_wp2_with fail
 refine qP 0 rfl ?_;go_wp2_with (go_at_call 84;refine (zC _ _ _ _ m).mono ?_;rintro e w' ⟨rfl,rfl⟩)
 refine (yB g 0 _ x.a u _ _ (Blk.alloc m _) rfl (by simp [go_sem])).mono ?_;rintro e w1 ⟨rfl,f1,m1⟩;have g1:Fr [g] w w1:=((Fr.refl _ _).alloc _).trans f1 zs;go_wp2_with fail
 refine (yB g 1 _ x.s u _ _ (Blk.alloc m1 _) rfl (by simp [go_sem])).mono ?_;rintro e w2 ⟨rfl,f2,m2⟩;have g2:Fr [g] w w2:=(g1.alloc _).trans f2 zs;go_wp2_with fail
 refine (yB g 3 _ x.l (u+r) _ _ (Blk.alloc m2 _) rfl (by simp [go_sem])).mono ?_;rintro e w3 ⟨rfl,f3,m3⟩;have g3:Fr [g] w w3:=(g2.alloc _).trans f3 zs;go_wp2_with fail
 try rw [vZ]
 go_ret2
 exact⟨rfl,g3,by simpa [Win] using m3⟩
theorem qiu(g:Nat)(x:Wn)(u r:Int)(w:World)(B:Int)(hB:B<=1000000000)(hi:Inv B x)(m:Win w g x true) :
  Calls Tryz.prog 113 #[ptr g, .int .i64 u, .int .i64 r] w fun e w'=>e = .returned (.tuple #[.int .i64 (je x u r).2.1, .int .i64 (je x u r).2.2])/\Fr [g] w w'/\Win w' g (je x u r).1 true:=by
 obtain⟨i0,i1,i2,i3,i4⟩:=hi;unfold je;by_cases h1:u<0\/r<0\/65535<r
 ·rw [if_pos h1]
  exact (ack_no1 g x u r w m h1).mono fun _ _ ⟨e,hw⟩=>by subst hw;exact⟨e,Fr.refl _ _,m⟩
 ·rw [if_neg h1]
  by_cases h2:x.m<u
  ·rw [if_pos h2]
   exact (ack_no2 g x u r w m zw zw zw h2).mono fun _ _ ⟨e,hw⟩=>by subst hw;exact⟨e,Fr.refl _ _,m⟩
  ·rw [if_neg h2]
   by_cases h3:u<x.a
   ·rw [if_pos h3]
    exact (ack_old g x u r w m zw zw zw zw h3).mono fun _ _ ⟨e,hw⟩=>by subst hw;exact⟨e,Fr.refl _ _,m⟩
   ·rw [if_neg h3]
    exact ack_yes g x u r w m zw zw zw zw zw zw zw
theorem qjv(g:Nat)(x:Wn)(w:World)(B:Int)(hB:B<=1000000000)(hi:Inv B x)(m:Win w g x true) :
  Calls Tryz.prog 111 #[ptr g] w fun e w'=>e = .returned (.tuple #[.int .i64 (kX x).2.1, .int .i64 (kX x).2.2])/\Fr [g] w w'/\Win w' g (kX x).1 true:=by
 obtain⟨i0,i1,i2,i3,i4⟩:=hi;have hz:=qit g x w m;unfold kX;cases hzv:zeroV x
 ·rw [if_neg zs]
  rw [hzv] at hz;go_enter Tryz.func111,Tryz.ntmps111;go_wp2_with (first|(go_at_call 84;refine (zC _ _ _ _ m).mono ?_;rintro e w' ⟨rfl,rfl⟩)|(go_at_call 98;refine hz.mono ?_;rintro e w1 ⟨rfl,f1⟩))
  go_ret2
  exact⟨rfl,f1.mono zs,Blk.fr m f1 zs⟩
 ·rw [if_pos rfl]
  rw [hzv] at hz;go_enter Tryz.func111,Tryz.ntmps111;go_wp2_with (first|(go_at_call 84;refine (zC _ _ _ _ m).mono ?_;rintro e w' ⟨rfl,rfl⟩)|(go_at_call 98;refine hz.mono ?_;rintro e w1 ⟨rfl,f1⟩))
  have m1:Win w1 g x true:=Blk.fr m f1 zs;have c0:=m1.c0;go_wp2_with fail
  have e1:IntKind.i64.wrap (x.a+1)=x.a+1:=IntWalk.i64_in _ zw;go_region_held3 (fun w'=>w'.cell? ⟨g,0,none⟩=some (.int .i64 x.a)) (go_keep) (first|(go_at_call 119;refine (yB g 2 _ x.m (x.a+1) _ _ (by exact Blk.alloc (Blk.drew m1) _) rfl ?_).mono ?_;(simp [go_sem]);rintro e w3 ⟨rfl,f3,m3⟩;have c13:w3.cell? ⟨g,0,none⟩=some (.int .i64 x.a):=(by have:=Blk.cell m3 0;simpa using this)))
  have f4:Fr [g] w w3:=(((f1.mono zs).drew).alloc _).trans f3 zs;have m4:Win w3 g ⟨x.a,x.s,max x.m (x.a+1),x.l⟩ true:=(by simpa [Win] using m3);go_wp2
  go_ret2
  exact⟨rfl,f4,m4⟩
theorem kD(g:Nat)(x:Wn)(w:World)(m:Win w g x true) :
  Calls Tryz.prog 48 #[ptr g] w fun e w'=>e = .returned (.agg #[.int .i64 x.a, .int .i64 x.s, .int .i64 x.m, .int .i64 x.l])/\Fr [] w w':=by
 have c4:=m.c4;have c0:=m.c0;have c1:=m.c1;have c2:=m.c2;have c3:=m.c3;have hl:=Blk.lt m;go_enter Tryz.func48,Tryz.ntmps48;go_wp2_with fail
 refine (zC _ _ _ _ (Blk.alloc m _)).mono ?_;rintro e w1 ⟨rfl,rfl⟩;go_wp2_with fail
 go_returns;exact⟨rfl,by repeat (first|exact Fr.refl _ _|apply Fr.drew|apply Fr.alloc|refine Fr.setCell ?_ (Or.inr zs) _)⟩
theorem qlu(g:Nat)(x:Wn)(w:World)(m:Win w g x true) :
  Calls Tryz.prog 41 #[ptr g] w fun e w'=>e = .returned (ptr w.heap.size)/\Fr [] w w'/\Win w' w.heap.size x true/\w.heap.size<w'.heap.size:=by
 have c4:=m.c4;have c0:=m.c0;have c1:=m.c1;have c2:=m.c2;have c3:=m.c3;have hl:=Blk.lt m;go_enter Tryz.func41,Tryz.ntmps41;go_wp2_with fail
 refine (zC _ _ _ _ m).mono ?_;rintro e w1 ⟨rfl,rfl⟩;go_wp2_with fail
 go_ret;exact⟨rfl,(Fr.refl _ _).alloc _,Blk.new _ _ _,zs⟩
end Go.Proofs.YtmgdbbbdhkfdmaaGreat.Win
