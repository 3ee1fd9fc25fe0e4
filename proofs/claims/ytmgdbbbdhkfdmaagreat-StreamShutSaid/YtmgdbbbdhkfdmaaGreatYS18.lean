import Derived.Test.YtmgdbbbdhkfdmaaGreatYS16
import Derived.Test.YtmgdbbbdhkfdmaaGreatYS17
import Derived.Deep.DeepCutAuto
set_option linter.unusedSimpArgs false
set_option linter.unusedVariables false
namespace Go.Proofs.YtmgdbbbdhkfdmaaGreat
set_option maxRecDepth 100000
open Go.RowKit Go.Deep
structure SameT(y x:St):Prop where
 all:y.all=x.all
 unread:y.unread=x.unread
 heap:y.heap=x.heap
 isn:y.isn=x.isn
 peer:y.peer=x.peer
 broken:y.broken=x.broken
def ESR(S:Nat→Prop)(w:World)(x:St)(av uv kv:Value)(Y:St × List Prt)(N:Nat)(s4:Value)(wr:World):Prop:=
 ∃ y k L,Lo w wr w.heap.size (w.heap.size+1) (arE y av uv kv)∧Pr S wr s4 L∧(∀ b∈ob s4,w.heap.size+1<b)∧OkS y∧SameT y x∧y.at_=4∧(N:Int) - y.win.s≤(k:Nat)∧(L.length:Int)+(N - y.win.s)≤2000000∧(loopV k y).1=Y.1∧L.map (·.1)++(loopV k y).2=Y.2
def esent(g:Nat)(N:Nat)(w:World):Nat:=match w.cell? ⟨g,7,none⟩ with|some (.int _ s)=>(N - s).toNat|_=>0
theorem esent_eq{w W:World}{bs br:Nat}{y:St}{av uv kv:Value}(l:Lo w W bs br (arE y av uv kv))(N:Nat):esent bs N W=((N:Int) - y.win.s).toNat:=by
 unfold esent
 rw [show W.cell? ⟨bs,7,none⟩=some (.int .i64 y.win.s) from l.s.cell 7]
set_option maxHeartbeats 32000000 in
theorem esends4{S:Nat→Prop}{w:World}{x:St}{av uv kv:Value}(m:RE S w x av uv kv)(ok:OkS x)(ou:OkU x)(h4:x.at_=4)(hbk:x.broken=false):Calls Tryz.prog 71 #[agE x av uv kv] w (EPart S w (sendsV x) av uv kv):=by
 have o1:=m.cells1
 obtain⟨⟨aA,ac,rfl,hac1,hac2⟩,_,_⟩:=m.forms
 have hR:=sendsV_open x h4
 generalize sendsV x=R at *
 have hrel:ESR S w x (.slice aA x.all.length ac) uv kv (loopV x.all.length x) x.all.length (.slice none 0 0) ((w.alloc (.cells (arE x (.slice aA x.all.length ac) uv kv) 41)).alloc (.cells endZ 41)):=
  ⟨x,x.all.length,[],Lo.start w _,Pr.nil,by simp [ob,Value.ownBlock],ok,⟨rfl,rfl,rfl,rfl,rfl,rfl⟩,h4,by have:=Win.Inv.bd ok.hw;omega,by have:=Win.Inv.bd ok.hw;have:=ok.hl;simp;omega,rfl,by simp⟩
 have hla:=loop_all x.all.length x
 have hlok:=loop_ok x.all.length x ok
 generalize loopV x.all.length x=Y at *
 have hNl:=ok.hl
 have hcm:x.all.length=x.all.length:=rfl
 have M:=hI m
 have OU:=hI ou
 have HOK:=hI ok
 generalize hN:x.all.length=N at *
 clear hcm
 have HNx:=hI hN
 have HBK:=hI hbk
 have HR:=hI hR
 have HLA:=hI hla
 have HLOK:=hI hlok
 have HRel:=hI hrel
 have HNl:Hid (N≤1000000):=hI (by omega)
 unfold maxLen at hac2
 have w1c:((w.alloc (.cells (arE x (.slice aA N ac) uv kv) 41)).alloc (.cells endZ 41)).cell? ⟨w.heap.size,4,none⟩=some (.slice aA N ac):=(Lo.start w (arE x (.slice aA N ac) uv kv)).s.cell 4
 clear m ok ou hR hla hlok hrel hN hNl h4 hbk
 go_enter Tryz.func71,Tryz.ntmps71
 go_upto_region 1 with fail
 generalize (w.alloc (.cells (arE x (.slice aA N ac) uv kv) 41)).alloc (.cells endZ 41)=w1 at *
 go_wp2_with fail
 go_loopw [4] (fun s4 wr=>ESR S w x (.slice aA N ac) uv kv Y N s4 wr) (fun _ wr=>esent w.heap.size N wr)
 case atStart=>exact HRel.out
 case round=>
  obtain⟨y,k,L1,ly,pr1,hob,ok1,sm,ha1,hk1,hl1,hy1,hy2⟩:=hrel
  obtain⟨A1,c1,rfl,_,_⟩:=own_form pr1.own
  have hwb:=Win.Inv.bd ok1.hw
  have hms:=esent_eq ly N
  have c2:wr.cell? ⟨w.heap.size,2,none⟩=some (.int .i64 4):=by rw [← ha1];exact ly.s.cell 2
  have c7:wr.cell? ⟨w.heap.size,7,none⟩=some (.int .i64 y.win.s):=ly.s.cell 7
  have c6:wr.cell? ⟨w.heap.size,6,none⟩=some (.int .i64 y.win.a):=ly.s.cell 6
  have c8:wr.cell? ⟨w.heap.size,8,none⟩=some (.int .i64 y.win.m):=ly.s.cell 8
  have c9:wr.cell? ⟨w.heap.size,9,none⟩=some (.int .i64 y.win.l):=ly.s.cell 9
  have hNy:y.all.length=N:=by rw [sm.all];exact HNx.out
  have hnx:min 64 (min ((N:Int) - y.win.s) (Win.roomV y.win))=nextV y:=by unfold nextV;rw [hNy]
  have hrm:=fun W=>Win.rroom y.win W 1000000000 (Int.le_refl _) ok1.hw
  have hnb:=next_bd (x:=y)
  have hst:=loop_stop k y
  have hmN:=ok1.hm
  have LR:Hid (∀ W,Fr [] wr W→Lo w W w.heap.size (w.heap.size+1) (arE y (.slice aA N ac) uv kv)):=hI (fun W f=>ly.grow f)
  have PR1:=hI pr1
  have HOB:=hI hob
  have OK1:=hI ok1
  have SM:=hI sm
  have HS:=hI (And.intro hk1 (And.intro hl1 (And.intro hy1 hy2)))
  have HMS:=hI hms
  have HRM:=hI hrm
  have HWB:=hI hwb
  have HMN:Hid (y.win.m≤N):=hI (by omega)
  have HNY:=hI hNy
  have HA1:=hI ha1
  have HNB:=hI hnb
  have HST:=hI hst
  have hrmv:Win.roomV y.win=max 0 (y.win.l - y.win.s):=by unfold Win.roomV;omega
  generalize Win.roomV y.win=rm at *
  have HNX:=hI hnx
  have HRMV:=hI hrmv
  clear ly pr1 hob ok1 sm ha1 hk1 hl1 hy1 hy2 hms hrm hwb hnb hst hmN hNy hnx hrmv w1c HRel
  by_cases hpos:0<nextV y
  ·have t1:y.win.s<(N:Int):=by have:=HNX.out;omega
   have t2:0<rm:=by have:=HNX.out;omega
   have hN0:0<x.all.length:=by rw [HNx.out];have:=HWB.out;omega
   obtain⟨ab,ao,rfl⟩:∃ ab ao,aA=some ⟨ab,ao,none⟩:=by
    obtain⟨b,o,h,_,_⟩:=M.out.ba.at_ hN0
    exact⟨b,o,h⟩
   clear hN0
   have HPOS:=hI hpos
   clear hpos
   go_upto_region 4 with (first
   | ((with_reducible refine gate_load 32 (.tmp 28) ?_);refine wpList_load_in rfl 32 (.tmp 28) rfl w.heap.size 6 41 (arE y (.slice (some ⟨ab,ao,none⟩) N ac) uv kv) (arW y.win) _ rfl (LR.out _ (by first|exact Fr.refl _ _|assumption)).s rfl Tryz.underlying32 rfl (by kernel_rfl) ?_)
   | (go_at_call 109;refine (HRM.out _).mono ?_;rintro e w2 ⟨rfl,f2⟩))
   have L2:Hid (∀ W,Fr [] w2 W→Lo w W w.heap.size (w.heap.size+1) (arE y (.slice (some ⟨ab,ao,none⟩) N ac) uv kv)):=hI (fun W f=>(LR.out _ f2).grow f)
   have cc:=ecells (L2.out _ (Fr.refl [] w2)).s
   have u6:=Grew.cell cc.c6
   have u7:=Grew.cell cc.c7
   have u8:=Grew.cell cc.c8
   have u9:=Grew.cell cc.c9
   have hRG:Hid (∀ p:Grew w2,Calls Tryz.prog 109 #[Win.agW y.win] p.W fun e w'=>e = .returned (.int .i64 rm)∧∃ q:Grew w2,w'=q.W):=hI (fun p=>grew_call (HRM.out p.W))
   have hsw:IntKind.i64.wrap ((N:Int) - y.win.s)=(N:Int) - y.win.s:=IntWalk.i64_in _ (by have:=HWB.out;have:=HNl.out;omega)
   have F2:=hI f2
   clear cc c2 c6 c7 c8 c9 f2 t1 t2
   refine wp_region_grew (by kernel_rfl) (by kernel_rfl) ?_
   repeat (go_big_quiet_step (first|(go_at_call 109;exact hRG.out _)))
   refine wpQuiet_nil ?_
   intro w3 f3
   generalize hnn:min 64 (min ((N:Int) - y.win.s) rm)=n at *
   have hne:n=nextV y:=HNX.out
   have hbd:=HNB.out HPOS.out
   rw [← hne] at hbd
   have hnp:0<n:=by rw [hne];exact HPOS.out
   rw [HNY.out] at hbd
   obtain⟨nb1,nb2,nb3⟩:=hbd
   obtain⟨nn,rfl⟩:∃ nn:Nat,n=nn:=⟨n.toNat,by omega⟩
   obtain⟨k',hk'⟩:∃ k':Nat,y.win.s=k':=⟨y.win.s.toNat,by have:=HWB.out;omega⟩
   have htk:=take_eq (v:=y.win) (n:=(nn:Int)) (by omega) nb3
   have hT:=fun W=>Win.rtake y.win (nn:Int) W 1000000000 (Int.le_refl _) OK1.out.hw
   rw [htk] at hT
   dsimp only at hT
   have HT:=hI hT
   have HTK:=hI htk
   have HNE:=hI hne
   have HKK:=hI hk'
   have NB:Hid (0<nn∧(nn:Int)≤64∧(nn:Int)≤N - y.win.s):=hI ⟨by omega,nb1,nb2⟩
   have L3:Hid (∀ W,Fr [] w3 W→Lo w W w.heap.size (w.heap.size+1) (arE y (.slice (some ⟨ab,ao,none⟩) N ac) uv kv)):=hI (fun W f=>(L2.out _ f3).grow f)
   have F3:=hI (F2.out.trans f3 (by simp))
   clear u6 u7 u8 u9 hRG hnn hne hnp nb1 nb2 nb3 htk hT hk' f3 L2 LR
   go_upto_region 6 with (first
   | ((with_reducible refine gate_load 32 (.tmp 43) ?_);refine wpList_load_in rfl 32 (.tmp 43) rfl w.heap.size 6 41 (arE y (.slice (some ⟨ab,ao,none⟩) N ac) uv kv) (arW y.win) _ rfl (L3.out _ (by first|exact Fr.refl _ _|assumption)).s rfl Tryz.underlying32 rfl (by kernel_rfl) ?_)
   | (go_at_call 110;refine (HT.out _).mono ?_;rintro e w5 ⟨rfl,f5⟩)
   | ((with_reducible refine gate_store 32 (.tmp 7) ?_);refine wpList_store_blk rfl 32 (.tmp 7) (.tmp 47) rfl w5.heap.size 32 #[.int .i64 0, .int .i64 0, .int .i64 0, .int .i64 0] #[.int .i64 y.win.a, .int .i64 (y.win.s+nn), .int .i64 (max y.win.m (y.win.s+nn)), .int .i64 y.win.l] rfl rfl (Blk.new w5 32 #[.int .i64 0, .int .i64 0, .int .i64 0, .int .i64 0]) rfl (by kernel_rfl) (by first|exact o1.out _|exact o2.out _|simp [Value.oneCell']) ?_;intro w6 B6 F6))
   have l5:=L3.out _ f5
   have l6:Lo w w6 w.heap.size (w.heap.size+1) (arE y (.slice (some ⟨ab,ao,none⟩) N ac) uv kv):=(l5.grow ((Fr.refl [] w5).alloc (.cells #[.int .i64 0, .int .i64 0, .int .i64 0, .int .i64 0] 32))).far F6 (by have:=l5.f.size;omega) (by have:=l5.s.lt;omega) (by have:=l5.r.lt;omega)
   have F36:Hid (Fr [] w3 w6):=hI ((f5.alloc (.cells #[.int .i64 0, .int .i64 0, .int .i64 0, .int .i64 0] 32)).trans F6 (fun z hz => .inr (by simp at hz;have:=f5.size;omega)))
   have L6:=hI l6
   have V6:=hI B6
   clear l5 l6 F6 B6 f5
   go_upto_region 7 with (first
   | ((with_reducible refine gate_load 32 (.tmp 7) ?_);refine wpList_load_blk rfl 32 (.tmp 7) rfl w5.heap.size 32 #[.int .i64 y.win.a, .int .i64 (y.win.s+nn), .int .i64 (max y.win.m (y.win.s+nn)), .int .i64 y.win.l] _ rfl V6.out Tryz.underlying32 rfl (by kernel_rfl) ?_)
   | ((with_reducible refine gate_store 32 (.tmp 51) ?_);refine wpList_store_in rfl 32 (.tmp 51) (.tmp 50) rfl w.heap.size 6 41 (arE y (.slice (some ⟨ab,ao,none⟩) N ac) uv kv) #[.int .i64 y.win.a, .int .i64 (y.win.s+nn), .int .i64 (max y.win.m (y.win.s+nn)), .int .i64 y.win.l] (arE { y with win:=⟨y.win.a,y.win.s+nn,max y.win.m (y.win.s+nn),y.win.l⟩ } (.slice (some ⟨ab,ao,none⟩) N ac) uv kv) rfl rfl L6.out.s (by simp) (by kernel_rfl) (by first|exact o1.out _|exact o2.out _|simp [Value.oneCell']) (win_in _ _ _ _ ⟨y.win.a,y.win.s+nn,max y.win.m (y.win.s+nn),y.win.l⟩) ?_;intro w7 B7 F7))
   have l7:Lo w w7 w.heap.size (w.heap.size+1) (arE { y with win:=⟨y.win.a,y.win.s+nn,max y.win.m (y.win.s+nn),y.win.l⟩ } (.slice (some ⟨ab,ao,none⟩) N ac) uv kv):=L6.out.set F7 B7
   have FA7:Hid (Fr [w.heap.size] wr w7):=hI (((F3.out.trans F36.out (by simp)).mono (by simp)).trans F7 (fun z hz => .inl hz))
   have hty:({ y with win:=⟨y.win.a,y.win.s+nn,max y.win.m (y.win.s+nn),y.win.l⟩ }:St)=takesV y nn:=by unfold takesV;rw [HTK.out]
   have okt:OkS (takesV y nn):=by have:=(takes_ok OK1.out HPOS.out).1;rw [← HNE.out] at this;exact this
   have hsend:=sendV_eq y
   rw [← HNE.out] at hsend
   rw [show ((nn:Int)).toNat=nn from by omega] at hsend
   have hso:=send_ok OK1.out HPOS.out
   have hgo:=fun q=>loop_go q y HPOS.out
   have hpt:=fun W (g:Fr [] w W)=>epart ((M.out.to_ (y:=takesV y nn) SM.out.all SM.out.unread SM.out.heap).fr g) okt (OU.out.of (y:=takesV y nn) SM.out.isn SM.out.peer) 2 y.win.s (by have:=HWB.out;omega) (by have:=HWB.out;have:=HMN.out;have:=HNl.out;omega) (some ⟨ab,ao+k',none⟩) nn (ac - k') ((y.all.drop y.win.s.toNat).take nn)
   have hby:∀ W,Fr [] w W→Byt S W (.slice (some ⟨ab,ao+k',none⟩) nn (ac - k')) ((y.all.drop y.win.s.toNat).take nn):=fun W g=>by
    have h5:=(M.out.ba.fr g (by simp)).cut (k:=k') (by have:=NB.out;have:=HKK.out;have:=HNx.out;omega)
    have hlt:k'<ac:=by have:=NB.out;have:=HKK.out;have:=HNx.out;omega
    rw [if_neg (by omega)] at h5
    have h6:=h5.take (k:=nn) (by rw [List.length_drop];have:=NB.out;have:=HKK.out;have:=HNx.out;omega)
    simp only [Option.map_some] at h6
    rw [add_lit'] at h6
    have h7:y.win.s.toNat=k':=by have:=HKK.out;omega
    rw [SM.out.all,h7]
    exact h6
   rw [← hty] at hpt hsend
   have hsv:shows { y with win:=⟨y.win.a,y.win.s+nn,max y.win.m (y.win.s+nn),y.win.l⟩ }={ y with win:=⟨y.win.a,y.win.s+nn,max y.win.m (y.win.s+nn),y.win.l⟩,shown:=roomV { y with win:=⟨y.win.a,y.win.s+nn,max y.win.m (y.win.s+nn),y.win.l⟩ } }:=rfl
   have hpd:(partV { y with win:=⟨y.win.a,y.win.s+nn,max y.win.m (y.win.s+nn),y.win.l⟩ } 2 y.win.s ((y.all.drop y.win.s.toNat).take nn)).d=(y.all.drop y.win.s.toNat).take nn:=rfl
   rw [hsv] at hpt hsend
   generalize roomV { y with win:=⟨y.win.a,y.win.s+nn,max y.win.m (y.win.s+nn),y.win.l⟩ }=rv at *
   generalize partV { y with win:=⟨y.win.a,y.win.s+nn,max y.win.m (y.win.s+nn),y.win.l⟩ } 2 y.win.s ((y.all.drop y.win.s.toNat).take nn)=pt at *
   obtain⟨pf,ps,pk,pw,pd⟩:=pt
   dsimp only at hpd
   rw [← hpd] at hby
   have HPT:=hI hpt
   have HBY:=hI hby
   have HSEND:=hI hsend
   have HSO:=hI hso
   have HGO:=hI hgo
   clear hty okt hpt hby hsend hso hgo hsv hpd L6 V6 F7 B7
   have s1:(0:Int)≤y.win.s:=by have:=HWB.out;omega
   have s2:y.win.s≤y.win.s+(nn:Int):=by omega
   have s3:y.win.s+(nn:Int)≤(ac:Int):=by have:=NB.out;omega
   have s4:(y.win.s+(nn:Int)).toNat=k'+nn:=by have:=HKK.out;omega
   have s5:y.win.s.toNat=k':=by have:=HKK.out;omega
   have s6:IntKind.i64.wrap (y.win.s+(nn:Int))=y.win.s+nn:=IntWalk.i64_in _ (by have:=NB.out;have:=HNl.out;omega)
   have s8:¬ ac=k':=by have:=NB.out;have:=HKK.out;omega
   have s9:k'+nn - k'=nn:=by omega
   have c:=ecells l7.s
   have c4:=c.c4
   have L7:=hI l7
   clear c l7
   refine Lay.wp_region_lay [⟨.new 13,41,arE { y with win:=⟨y.win.a,y.win.s+nn,max y.win.m (y.win.s+nn),y.win.l⟩,shown:=rv } (.slice (some ⟨ab,ao,none⟩) N ac) uv kv,some 15⟩,⟨.new 14,49,arP ⟨pf,ps,pk,pw,pd⟩ (.slice (some ⟨ab,ao+k',none⟩) nn (ac - k')),some 16⟩] [] [62] (by kernel_rfl) (by kernel_rfl) (fun β=>by kernel_rfl) rfl ⟨trivial,trivial,trivial⟩ ?hh7
   apply Exists.intro
   refine⟨?h7,?hO7,?hI7,?hQ7⟩
   case h7=>
    intro β X hX hN
    have g4:∀ p:Lay.GX [] w7 X,p.W.cell? ⟨w.heap.size,4,none⟩=some (.slice (some ⟨ab,ao,none⟩) N ac):=Lay.GX.cell c4 (by simp)
    have gb:Hid (∀ p:Lay.GX [] w7 X,Blk p.W w.heap.size 41 (arE { y with win:=⟨y.win.a,y.win.s+nn,max y.win.m (y.win.s+nn),y.win.l⟩ } (.slice (some ⟨ab,ao,none⟩) N ac) uv kv)):=hI (fun p=>L7.out.s.fr p.fr (by simp))
    have gf:Hid (∀ p:Lay.GX [] w7 X,Fr [] w p.W):=hI (fun p=>L7.out.f.trans p.fr (by simp))
    have h2':Hid (∀ p:Lay.GX [] w7 X,Calls Tryz.prog 81 #[agE { y with win:=⟨y.win.a,y.win.s+nn,max y.win.m (y.win.s+nn),y.win.l⟩ } (.slice (some ⟨ab,ao,none⟩) N ac) uv kv, .int .i64 2, .int .i64 y.win.s,(.slice (some ⟨ab,ao+k',none⟩) nn (ac - k'))] p.W fun e w'=>e = .returned (.tuple #[agE { y with win:=⟨y.win.a,y.win.s+nn,max y.win.m (y.win.s+nn),y.win.l⟩,shown:=rv } (.slice (some ⟨ab,ao,none⟩) N ac) uv kv,agP ⟨pf,ps,pk,pw,pd⟩ (.slice (some ⟨ab,ao+k',none⟩) nn (ac - k'))])∧∃ q:Lay.GX [] w7 X,w'=q.W):=hI (fun p=>Lay.GX.call hX (HPT.out p.W (gf.out p)))
    simp only [Lay.opsB,Lay.lays,Lay.lay,Lay.eff,Lay.layV,if_true,if_false,Bool.false_eq_true,reduceIte]
    repeat (first
     | ((with_reducible refine gateQ_load 41 (.tmp 1) ?_);refine wpQuiet_load_blk rfl 41 (.tmp 1) rfl w.heap.size 41 (arE { y with win:=⟨y.win.a,y.win.s+nn,max y.win.m (y.win.s+nn),y.win.l⟩ } (.slice (some ⟨ab,ao,none⟩) N ac) uv kv) _ rfl (fun W hW=>by obtain⟨p,rfl⟩:=hW;exact gb.out p) Tryz.underlying41 rfl (by kernel_rfl) ?_;simp only [Act.put,zqA,zqB,zqC])
     | go_big_quiet_step (first|(go_at_call 81;exact h2'.out _)))
    exact wpQuiet_nil rfl
   case hO7=>exact⟨Lay.ok_new rfl rfl alloc_end rfl rfl rfl rfl (by kernel_rfl) (by first|exact o1.out _|exact o2.out _|simp [Value.oneCell']) (fun β=>rfl) (fun β=>rfl) (by kernel_rfl),Lay.ok_new rfl rfl alloc_part rfl rfl rfl rfl (by kernel_rfl) (by first|exact o1.out _|exact o2.out _|simp [Value.oneCell']) (fun β=>rfl) (fun β=>rfl) (by kernel_rfl),trivial⟩
   case hI7=>exact⟨fun _ _=>rfl,trivial⟩
   case hQ7=>
    intro β W8 hf8 hl8
    obtain⟨⟨B10,N10⟩,⟨B11,N11⟩,_⟩:=hl8
    have L8:=hI (L7.out.grow hf8)
    change Blk W8 (β 13) 41 (arE { y with win:=⟨y.win.a,y.win.s+nn,max y.win.m (y.win.s+nn),y.win.l⟩,shown:=rv } (.slice (some ⟨ab,ao,none⟩) N ac) uv kv) at B10
    change Blk W8 (β 14) 49 (arP ⟨pf,ps,pk,pw,pd⟩ (.slice (some ⟨ab,ao+k',none⟩) nn (ac - k'))) at B11
    change w7.heap.size≤β 13 at N10
    change w7.heap.size≤β 14 at N11
    generalize β 13=b10 at *
    generalize β 14=b11 at *
    have FA8:Hid (Fr [w.heap.size] wr W8):=hI (FA7.out.trans hf8 (by simp))
    have HB11:Hid (b11≠w.heap.size):=hI (by have:=L7.out.s.lt;omega)
    have V10:=hI B10
    have V11:=hI B11
    clear B10 B11 N10 N11 c4 hf8 L7
    go_upto_region 9 with (first
     | ((with_reducible refine gate_load 41 (.tmp 10) ?_);refine wpList_load_blk rfl 41 (.tmp 10) rfl b10 41 (arE { y with win:=⟨y.win.a,y.win.s+nn,max y.win.m (y.win.s+nn),y.win.l⟩,shown:=rv } (.slice (some ⟨ab,ao,none⟩) N ac) uv kv) _ rfl V10.out Tryz.underlying41 rfl (by kernel_rfl) ?_)
     | ((with_reducible refine gate_store 41 (.tmp 1) ?_);refine wpList_store_blk rfl 41 (.tmp 1) (.tmp 65) rfl w.heap.size 41 (arE { y with win:=⟨y.win.a,y.win.s+nn,max y.win.m (y.win.s+nn),y.win.l⟩ } (.slice (some ⟨ab,ao,none⟩) N ac) uv kv) (arE { y with win:=⟨y.win.a,y.win.s+nn,max y.win.m (y.win.s+nn),y.win.l⟩,shown:=rv } (.slice (some ⟨ab,ao,none⟩) N ac) uv kv) rfl rfl L8.out.s rfl (by kernel_rfl) (by first|exact o1.out _|exact o2.out _|simp [Value.oneCell']) ?_;intro w9 B9 F9))
    have FA9:Hid (Fr [w.heap.size] wr w9):=hI (FA8.out.trans F9 (fun z hz => .inl hz))
    have L9:Hid (∀ W,Fr [] w9 W→Lo w W w.heap.size (w.heap.size+1) (arE { y with win:=⟨y.win.a,y.win.s+nn,max y.win.m (y.win.s+nn),y.win.l⟩,shown:=rv } (.slice (some ⟨ab,ao,none⟩) N ac) uv kv)):=hI (fun W f=>(L8.out.set F9 B9).grow f)
    have V9:Hid (Blk w9 b11 49 (arP ⟨pf,ps,pk,pw,pd⟩ (.slice (some ⟨ab,ao+k',none⟩) nn (ac - k')))):=hI (V11.out.fr F9 (by simpa using HB11.out))
    have NSb:Hid (∀ b,w.heap.size≤b→¬ S b):=hI (fun b hb hs=>by have:=M.out.pub b hs;omega)
    have PR9:Hid (Pr S w9 (.slice A1 L1.length c1) L1):=hI (PR1.out.fr FA9.out (fun z hz=>by simp at hz;subst hz;exact NSb.out _ (Nat.le_refl _)) (fun b hb hm=>by simp at hm;have:=HOB.out b hb;omega) (fun _ h=>h))
    have BY9:Hid (Byt S w9 (.slice (some ⟨ab,ao+k',none⟩) nn (ac - k')) pd):=hI (HBY.out w9 (L9.out w9 (Fr.refl _ _)).f)
    have HW9:=hI (lies_part (p:=⟨pf,ps,pk,pw,pd⟩) PR9.out (Fr.refl [w.heap.size] w9) (fun z hz=>by have:=HOB.out z hz;omega) BY9.out)
    have HLM:Hid (L1.length+1≤maxLen):=hI (by unfold maxLen;have:=HS.out.2.1;have:=HWB.out;have:=HMN.out;omega)
    have HLB:Hid ((L1.length+1) * 48≤140737488355328):=hI (by have:=HS.out.2.1;have:=HWB.out;have:=HMN.out;omega)
    obtain⟨k0,hk0⟩:∃ k0,k=k0+1:=⟨k - 1,by have:=HS.out.1;have:=NB.out;omega⟩
    subst hk0
    obtain⟨i0,hi0,hz0,hz1,hz2⟩:=info_parts info_part
    clear F9 B9 V10 V11
    go_upto_region 10 with (first
       | ((with_reducible refine gate_load 49 (.tmp 11) ?_);refine wpList_load_blk rfl 49 (.tmp 11) rfl b11 49 (arP ⟨pf,ps,pk,pw,pd⟩ (.slice (some ⟨ab,ao+k',none⟩) nn (ac - k'))) _ rfl V9.out Tryz.underlying49 rfl (by kernel_rfl) ?_)
       | (at_builtin;refine wpList_append_sl _ rfl (.tmp 66) (.tmp 68) 27 rfl 49 i0 (.agg #[.int .i64 0, .int .u32 0, .int .u32 0, .int .u16 0, .slice none 0 0]) 5 48 Tryz.underlying27 hi0 hz0 hz1 hz2 rfl (by decide) (.slice A1 L1.length c1) L1.length (prs L1) (by rfl) HW9.out.1 (fun _=>True) (.slice (some ⟨w9.heap.size,0,none⟩) 1 1) 1 [.int .i64 pf, .int .u32 ps, .int .u32 pk, .int .u16 pw,(.slice (some ⟨ab,ao+k',none⟩) nn (ac - k'))] (by rfl) HW9.out.2 (one5 ⟨pf,ps,pk,pw,pd⟩ _ _ _) HLM.out HLB.out (L1.length+1) rfl ?_;intro A7 c7 W10 h10 h11 h12;have H10:=hI h10;have H11:=hI h11;have H12:=hI h12;clear h10 h11 h12))
    have fa:Fr [] w9 (w9.alloc (.cells (arP ⟨pf,ps,pk,pw,pd⟩ (.slice (some ⟨ab,ao+k',none⟩) nn (ac - k'))) 49)):=(Fr.refl [] w9).alloc _
    have lx:=L9.out _ fa
    have l10:Lo w W10 w.heap.size (w.heap.size+1) (arE { y with win:=⟨y.win.a,y.win.s+nn,max y.win.m (y.win.s+nn),y.win.l⟩,shown:=rv } (.slice (some ⟨ab,ao,none⟩) N ac) uv kv):=⟨lx.f.trans H11.out (fun z hz => .inr (by have:=HOB.out z hz;omega)),lx.s.fr H11.out (fun hm=>by have:=HOB.out _ hm;omega),lx.r.fr H11.out (fun hm=>by have:=HOB.out _ hm;omega),lx.n1,lx.n2,lx.n3⟩
    have PR10:Hid (Pr S W10 (.slice A7 (L1.length+1) c7) (L1++[(⟨pf,ps,pk,pw,pd⟩,(.slice (some ⟨ab,ao+k',none⟩) nn (ac - k')))])):=hI (Pr.app (PR9.out.fr fa (by simp) (by simp) (fun _ h=>h)) H10.out H11.out (fun b hb=>NSb.out b (by have:=HOB.out b hb;omega)) (BY9.out.fr fa (by simp)))
    have FR10:Hid (∀ b∈ob (.slice A7 (L1.length+1) c7),w.heap.size+1<b):=hI (fun b hb=>by
     have h0:=(L9.out w9 (Fr.refl _ _)).r.lt
     rcases H12.out b (mem_ob.1 hb) with h|h
     ·exact HOB.out b (mem_ob.2 h)
     ·have:=h.1;simp at this;omega)
    have c31:W10.cell? ⟨w.heap.size,31,none⟩=some (.int .i64 y.timed):=l10.s.cell 31
    have c30:W10.cell? ⟨w.heap.size,30,none⟩=some (.int .i64 y.since):=l10.s.cell 30
    have c29:W10.cell? ⟨w.heap.size,29,none⟩=some (.int .i64 y.now):=l10.s.cell 29
    have z31:=l10.s.frozen 31
    have z30:=l10.s.frozen 30
    have hlb:=l10.s.lt
    have L10:=hI l10
    clear fa lx l10
    by_cases ht:y.timed=0
    ·have HV:Hid ((sendV y).1={ y with win:=⟨y.win.a,y.win.s+nn,max y.win.m (y.win.s+nn),y.win.l⟩,shown:=rv,timed:=y.win.s+nn,since:=y.now }):=hI (by rw [HSEND.out];show timesV _ _=_;unfold timesV;rw [if_pos (show _=(0:Int) from ht)])
     rw [ht] at c31
     have HTT:=hI ht
     clear ht
     go_wp2_with fail
     have lset:Lo w ((W10.setCell ⟨w.heap.size,31,none⟩ (.int .i64 (y.win.s+nn))).setCell ⟨w.heap.size,30,none⟩ (.int .i64 y.now)) w.heap.size (w.heap.size+1) (arE { y with win:=⟨y.win.a,y.win.s+nn,max y.win.m (y.win.s+nn),y.win.l⟩,shown:=rv,timed:=y.win.s+nn,since:=y.now } (.slice (some ⟨ab,ao,none⟩) N ac) uv kv):=by
      have hh:=(L10.out.cell 31 (.int .i64 (y.win.s+nn))).cell 30 (.int .i64 y.now)
      simp only [arE,zqA,zqB,zqC] at hh ⊢
      exact hh
     have prset:=PR10.out.fr (((Fr.refl [w.heap.size] W10).setCell (p:=⟨w.heap.size,31,none⟩) (.inl (by simp)) (.int .i64 (y.win.s+nn))).setCell (p:=⟨w.heap.size,30,none⟩) (.inl (by simp)) (.int .i64 y.now)) (fun z hz=>by simp at hz;subst hz;exact NSb.out _ (Nat.le_refl _)) (fun b hb hm=>by simp at hm;have:=FR10.out b hb;omega) (fun _ h=>h)
     have LSET:=hI lset
     have PRS:=hI prset
     clear lset prset
     go_roundw
     case rel=>
      refine⟨{ y with win:=⟨y.win.a,y.win.s+nn,max y.win.m (y.win.s+nn),y.win.l⟩,shown:=rv,timed:=y.win.s+nn,since:=y.now },k0,L1++[(⟨pf,ps,pk,pw,pd⟩,(.slice (some ⟨ab,ao+k',none⟩) nn (ac - k')))],LSET.out,PRS.out,FR10.out,by rw [← HV.out];exact HSO.out.1,⟨SM.out.all,SM.out.unread,SM.out.heap,SM.out.isn,SM.out.peer,SM.out.broken⟩,HA1.out,?_,?_,?_,?_⟩
      ·show (N:Int) - (y.win.s+nn)≤(k0:Int)
       have:=HS.out.1
       have:=NB.out
       omega
      ·show ((L1++[((⟨pf,ps,pk,pw,pd⟩:Prt),((.slice (some ⟨ab,ao+k',none⟩) nn (ac - k')):Value))]).length:Int)+(N - (y.win.s+nn))≤2000000
       rw [List.length_append]
       have:=HS.out.2.1
       have:=NB.out
       simp only [List.length_singleton]
       omega
      ·rw [← HV.out]
       have:=HS.out.2.2.1
       rw [HGO.out] at this
       exact this
      ·rw [← HV.out]
       have:=HS.out.2.2.2
       rw [HGO.out] at this
       have h2:(sendV y).2=⟨pf,ps,pk,pw,pd⟩:=by rw [HSEND.out]
       rw [h2] at this
       rw [List.map_append,List.append_assoc]
       exact this
     case measure=>
      rw [HMS.out,esent_eq LSET.out]
      show ((N:Int) - (y.win.s+nn)).toNat<_
      have:=NB.out
      omega
    ·have htq:(y.timed == 0)=false:=by simpa using ht
     have HV:Hid ((sendV y).1={ y with win:=⟨y.win.a,y.win.s+nn,max y.win.m (y.win.s+nn),y.win.l⟩,shown:=rv }):=hI (by rw [HSEND.out];show timesV _ _=_;unfold timesV;rw [if_neg (show ¬ _=(0:Int) from ht)])
     go_wp2_with fail
     go_roundw
     case rel=>
      refine⟨{ y with win:=⟨y.win.a,y.win.s+nn,max y.win.m (y.win.s+nn),y.win.l⟩,shown:=rv },k0,L1++[(⟨pf,ps,pk,pw,pd⟩,(.slice (some ⟨ab,ao+k',none⟩) nn (ac - k')))],L10.out,PR10.out,FR10.out,by rw [← HV.out];exact HSO.out.1,⟨SM.out.all,SM.out.unread,SM.out.heap,SM.out.isn,SM.out.peer,SM.out.broken⟩,HA1.out,?_,?_,?_,?_⟩
      ·show (N:Int) - (y.win.s+nn)≤(k0:Int)
       have:=HS.out.1
       have:=NB.out
       omega
      ·show ((L1++[((⟨pf,ps,pk,pw,pd⟩:Prt),((.slice (some ⟨ab,ao+k',none⟩) nn (ac - k')):Value))]).length:Int)+(N - (y.win.s+nn))≤2000000
       rw [List.length_append]
       have:=HS.out.2.1
       have:=NB.out
       simp only [List.length_singleton]
       omega
      ·rw [← HV.out]
       have:=HS.out.2.2.1
       rw [HGO.out] at this
       exact this
      ·rw [← HV.out]
       have:=HS.out.2.2.2
       rw [HGO.out] at this
       have h2:(sendV y).2=⟨pf,ps,pk,pw,pd⟩:=by rw [HSEND.out]
       rw [h2] at this
       rw [List.map_append,List.append_assoc]
       exact this
     case measure=>
      rw [HMS.out,esent_eq L10.out]
      show ((N:Int) - (y.win.s+nn)).toNat<_
      have:=NB.out
      omega
  ·have hex:¬ y.win.s<(N:Int)∨¬ 0<rm:=by have:=HNX.out;omega
   have hstop:=HST.out hpos
   have hy1:=HS.out.2.2.1
   have hy2:=HS.out.2.2.2
   rw [hstop] at hy1 hy2
   simp only [List.append_nil] at hy2
   have hRR:=HR.out
   rw [← hy1,← hy2] at hRR
   have HRR:=hI hRR
   clear hstop hy1 hy2 hRR hpos HNX HNB HST
   by_cases t1:y.win.s<(N:Int)
   ·have t2:¬ 0<rm:=by omega
    clear hex
    go_upto_region 12 with (first
   | ((with_reducible refine gate_load 32 (.tmp 28) ?_);refine wpList_load_in rfl 32 (.tmp 28) rfl w.heap.size 6 41 (arE y (.slice aA N ac) uv kv) (arW y.win) _ rfl (LR.out _ (by first|exact Fr.refl _ _|assumption)).s rfl Tryz.underlying32 rfl (by kernel_rfl) ?_)
   | (go_at_call 109;refine (HRM.out _).mono ?_;rintro e w2 ⟨rfl,f2⟩))
    have LX:Hid (∀ W,Fr [] w2 W→Lo w W w.heap.size (w.heap.size+1) (arE y (.slice aA N ac) uv kv)):=hI (fun W f=>(LR.out _ f2).grow f)
    have FX:Hid (Fr [] wr w2):=hI f2
    clear f2 t1 t2 c2 c6 c7 c8 c9 LR
    have hfv:finsV y=(y.closing && decide (y.win.s=(N:Int)) && !y.fin):=by unfold finsV;rw [HNY.out]
    have hcv:closesV y=if finsV y then ({ shows y with fin:=true },[partV y 6 y.all.length []]) else (y,[]):=rfl
    generalize hgf:finsV y=fv at *
    have HFV:=hI hfv
    have HCV:=hI hcv
    clear hgf hfv hcv
    have NSb:Hid (∀ b,w.heap.size≤b→¬ S b):=hI (fun b hb hs=>by have:=M.out.pub b hs;omega)
    have PRX:Hid (Pr S w2 (.slice A1 L1.length c1) L1):=hI (PR1.out.fr FX.out (by simp) (by simp) (fun _ h=>h))
    have c2:w2.cell? ⟨w.heap.size,2,none⟩=some (.int .i64 4):=by rw [← HA1.out];exact (LX.out _ (Fr.refl _ _)).s.cell 2
    have c25:w2.cell? ⟨w.heap.size,25,none⟩=some (.bool y.closing):=(LX.out _ (Fr.refl _ _)).s.cell 25
    have c26:w2.cell? ⟨w.heap.size,26,none⟩=some (.bool y.fin):=(LX.out _ (Fr.refl _ _)).s.cell 26
    have c7:w2.cell? ⟨w.heap.size,7,none⟩=some (.int .i64 y.win.s):=(LX.out _ (Fr.refl _ _)).s.cell 7
    clear FX PR1 HMS HRM
    go_cut [98] (fun s98 wx=>s98 = .bool fv∧Fr [] w2 wx)
    case first=>
     have hf:=HFV.out
     generalize y.closing=cl at *
     generalize y.fin=fi at *
     cases cl
     ·simp only [Bool.false_and] at hf
      subst hf
      go_wp2_with fail
      go_meet
      exact⟨rfl,Fr.refl _ _⟩
     ·by_cases hsn:y.win.s=N
      ·have hsd:decide (y.win.s=(N:Int))=true:=by simpa using hsn
       have hsq:(y.win.s == (N:Int))=true:=by simpa using hsn
       clear hsn
       rw [hsd] at hf
       cases fi
       all_goals
        simp only [Bool.not_true,Bool.not_false,Bool.and_true,Bool.true_and,Bool.and_false,Bool.false_and] at hf
        subst hf
        go_wp2_with fail
        go_meet
        exact⟨rfl,Fr.refl _ _⟩
      ·have hsd:decide (y.win.s=(N:Int))=false:=by simpa using hsn
       have hsq:(y.win.s == (N:Int))=false:=by simpa using hsn
       clear hsn
       rw [hsd] at hf
       simp only [Bool.not_true,Bool.not_false,Bool.and_true,Bool.true_and,Bool.and_false,Bool.false_and] at hf
       subst hf
       go_wp2_with fail
       go_meet
       exact⟨rfl,Fr.refl _ _⟩
    case rest=>
     obtain⟨rfl,fx⟩:=hcut
     have LY:Hid (∀ W,Fr [] wc W→Lo w W w.heap.size (w.heap.size+1) (arE y (.slice aA N ac) uv kv)):=hI (fun W f=>(LX.out _ fx).grow f)
     have PRY:Hid (Pr S wc (.slice A1 L1.length c1) L1):=hI (PRX.out.fr fx (by simp) (by simp) (fun _ h=>h))
     clear fx c2 c25 c26 c7 LX PRX HFV
     cases fv
     ·have HC2:Hid (closesV y=(y,[])):=hI (by rw [HCV.out,if_neg (by simp)])
      have HZ0:Hid (R.1=restsV (lastV y)∧R.2=L1.map (·.1)):=hI (by rw [HRR.out,HC2.out];exact⟨rfl,by simp⟩)
      clear HCV HC2 HRR
      have c:=ecells (LY.out _ (Fr.refl _ _)).s
      have c2:wc.cell? ⟨w.heap.size,2,none⟩=some (.int .i64 4):=by rw [← HA1.out];exact c.c2
      have c27:wc.cell? ⟨w.heap.size,27,none⟩=some (.bool y.acked):=c.c27
      have c28:wc.cell? ⟨w.heap.size,28,none⟩=some (.bool y.ended):=c.c28
      have z2:=(LY.out _ (Fr.refl _ _)).s.frozen 2
      have hlb:=(LY.out _ (Fr.refl _ _)).s.lt
      have hlast:lastV y=if y.ended && y.acked then doneV y false else y:=rfl
      have HLAST:=hI hlast
      clear c hlast
      cases he:y.ended
      ·rw [he] at c28
       have HZ:Hid (R.1=restsV y∧R.2=(L1).map (·.1)):=hI (by have h:=HZ0.out;rw [HLAST.out,if_neg (by rw [he];simp)] at h;exact⟨h.1,by simpa using h.2⟩)
       clear HZ0 HLAST he
       have hre:=fun W (g:Fr [] w W)=>erests ((M.out.to_ (y:=y) SM.out.all SM.out.unread SM.out.heap).fr g) (show Rto.Inv y.clk from OK1.out.hc)
       generalize restsV y=rz at *
       have HRE:=hI hre
       clear hre
       have LZ:Hid (∀ W,Fr [] wc W→Lo w W w.heap.size (w.heap.size+1) (arE y (.slice aA N ac) uv kv)):=LY
       go_upto_region 19 with fail
       go_cut [3] (fun s3 wx=>s3=(.slice A1 L1.length c1)∧Blk wx (w.heap.size+1) 41 (arE rz (.slice aA N ac) uv kv)∧Fr [] w wx∧Pr S wx (.slice A1 L1.length c1) (L1))
       case first=>
        clear c2 c27 c28 z2 hlb
        go_wp2_with (first
          | ((with_reducible refine gate_load 41 (.tmp 1) ?_);refine wpList_load_blk rfl 41 (.tmp 1) rfl w.heap.size 41 (arE y (.slice aA N ac) uv kv) _ rfl (LZ.out _ (by first|exact Fr.refl _ _|assumption)).s Tryz.underlying41 rfl (by kernel_rfl) ?_)
          | (go_at_call 27;refine (HRE.out _ (LZ.out _ (Fr.refl _ _)).f).mono ?_;rintro e w6 ⟨rfl,f6⟩)
          | ((with_reducible refine gate_store 41 (.tmp 2) ?_);refine wpList_store_blk rfl 41 (.tmp 2) (.tmp 124) rfl (w.heap.size+1) 41 endZ (arE rz (.slice aA N ac) uv kv) rfl rfl (LZ.out _ f6).r rfl (by kernel_rfl) (by first|exact o1.out _|exact o2.out _|simp [Value.oneCell']) ?_;intro w8 B8 F8))
        go_meet
        exact⟨rfl,B8,(LZ.out _ f6).res F8,((PRY.out).fr f6 (by simp) (by simp) (fun _ h=>h)).fr F8 (fun z hz=>by simp at hz;subst hz;exact NSb.out _ (by omega)) (fun b hb hm=>by simp at hm;have:=HOB.out b hb;omega) (fun _ h=>h)⟩
       case rest=>
        obtain⟨rfl,Bz,Fz,Pz⟩:=hcut
        refine ‹∀(a:Act) (w:World),Code.wp Tryz.prog Code.ret _ a w→_› _ _ (wp_ret ?_)
        try simp only [Exit.then]
        change bodyPost Tryz.prog _ _ .ret _ _
        refine bodyPost_ret (results_ct 2 41 ⟨w.heap.size+1,0,none⟩ _ 3 ((.slice A1 L1.length c1)) (by rfl) (by rfl) (end_load Bz) (by rfl)) (by rfl) ?_
        exact⟨(.slice A1 L1.length c1),L1,by rw [HZ.out.1],HZ.out.2.symm,Pz,Fz⟩
      ·rw [he] at c28
       have hend:=he
       clear he
       cases he:y.acked
       ·rw [he] at c27
        have HZ:Hid (R.1=restsV y∧R.2=(L1).map (·.1)):=hI (by have h:=HZ0.out;rw [HLAST.out,if_neg (by rw [hend,he];simp)] at h;exact⟨h.1,by simpa using h.2⟩)
        clear HZ0 HLAST he
        have hre:=fun W (g:Fr [] w W)=>erests ((M.out.to_ (y:=y) SM.out.all SM.out.unread SM.out.heap).fr g) (show Rto.Inv y.clk from OK1.out.hc)
        generalize restsV y=rz at *
        have HRE:=hI hre
        clear hre
        have LZ:Hid (∀ W,Fr [] wc W→Lo w W w.heap.size (w.heap.size+1) (arE y (.slice aA N ac) uv kv)):=LY
        go_upto_region 19 with fail
        go_cut [3] (fun s3 wx=>s3=(.slice A1 L1.length c1)∧Blk wx (w.heap.size+1) 41 (arE rz (.slice aA N ac) uv kv)∧Fr [] w wx∧Pr S wx (.slice A1 L1.length c1) (L1))
        case first=>
         clear c2 c27 c28 z2 hlb
         go_wp2_with (first
           | ((with_reducible refine gate_load 41 (.tmp 1) ?_);refine wpList_load_blk rfl 41 (.tmp 1) rfl w.heap.size 41 (arE y (.slice aA N ac) uv kv) _ rfl (LZ.out _ (by first|exact Fr.refl _ _|assumption)).s Tryz.underlying41 rfl (by kernel_rfl) ?_)
           | (go_at_call 27;refine (HRE.out _ (LZ.out _ (Fr.refl _ _)).f).mono ?_;rintro e w6 ⟨rfl,f6⟩)
           | ((with_reducible refine gate_store 41 (.tmp 2) ?_);refine wpList_store_blk rfl 41 (.tmp 2) (.tmp 124) rfl (w.heap.size+1) 41 endZ (arE rz (.slice aA N ac) uv kv) rfl rfl (LZ.out _ f6).r rfl (by kernel_rfl) (by first|exact o1.out _|exact o2.out _|simp [Value.oneCell']) ?_;intro w8 B8 F8))
         go_meet
         exact⟨rfl,B8,(LZ.out _ f6).res F8,((PRY.out).fr f6 (by simp) (by simp) (fun _ h=>h)).fr F8 (fun z hz=>by simp at hz;subst hz;exact NSb.out _ (by omega)) (fun b hb hm=>by simp at hm;have:=HOB.out b hb;omega) (fun _ h=>h)⟩
        case rest=>
         obtain⟨rfl,Bz,Fz,Pz⟩:=hcut
         refine ‹∀(a:Act) (w:World),Code.wp Tryz.prog Code.ret _ a w→_› _ _ (wp_ret ?_)
         try simp only [Exit.then]
         change bodyPost Tryz.prog _ _ .ret _ _
         refine bodyPost_ret (results_ct 2 41 ⟨w.heap.size+1,0,none⟩ _ 3 ((.slice A1 L1.length c1)) (by rfl) (by rfl) (end_load Bz) (by rfl)) (by rfl) ?_
         exact⟨(.slice A1 L1.length c1),L1,by rw [HZ.out.1],HZ.out.2.symm,Pz,Fz⟩
       ·rw [he] at c27
        have lw:Lo w (wc.setCell ⟨w.heap.size,2,none⟩ (.int .i64 5)) w.heap.size (w.heap.size+1) (arE { y with at_:=5,broken:=false } (.slice aA N ac) uv kv):=by
         have hh:=(LY.out _ (Fr.refl _ _)).cell 2 (.int .i64 5)
         have hb:y.broken=false:=by rw [SM.out.broken];exact HBK.out
         simp only [arE,hb,zqA,zqB,zqC] at hh ⊢
         exact hh
        have LV:=hI lw
        have PRD:Hid (Pr S (wc.setCell ⟨w.heap.size,2,none⟩ (.int .i64 5)) ((.slice A1 L1.length c1)) (L1)):=hI (PRY.out.fr ((Fr.refl [w.heap.size] wc).setCell (p:=⟨w.heap.size,2,none⟩) (.inl (by simp)) (.int .i64 5)) (fun z hz=>by simp at hz;subst hz;exact NSb.out _ (Nat.le_refl _)) (fun b hb hm=>by simp at hm;have:=HOB.out b hb;omega) (fun _ h=>h))
        clear lw
        have HZ:Hid (R.1=restsV { y with at_:=5,broken:=false }∧R.2=(L1).map (·.1)):=hI (by have h:=HZ0.out;rw [HLAST.out,if_pos (by rw [hend,he];rfl)] at h;exact⟨h.1,by simpa using h.2⟩)
        clear HZ0 HLAST he
        have hre:=fun W (g:Fr [] w W)=>erests ((M.out.to_ (y:={ y with at_:=5,broken:=false }) SM.out.all SM.out.unread SM.out.heap).fr g) (show Rto.Inv y.clk from OK1.out.hc)
        generalize restsV { y with at_:=5,broken:=false }=rz at *
        have HRE:=hI hre
        clear hre
        have LZ:Hid (∀ W,Fr [] (wc.setCell ⟨w.heap.size,2,none⟩ (.int .i64 5)) W→Lo w W w.heap.size (w.heap.size+1) (arE { y with at_:=5,broken:=false } (.slice aA N ac) uv kv)):=hI (fun W f=>LV.out.grow f)
        go_upto_region 19 with fail
        clear c2 c27 c28 z2 hlb LV
        generalize ({ y with at_:=5,broken:=false }:St)=zz at *
        generalize wc.setCell ⟨w.heap.size,2,none⟩ (.int .i64 5)=wd at *
        go_cut [3] (fun s3 wx=>s3=(.slice A1 L1.length c1)∧Blk wx (w.heap.size+1) 41 (arE rz (.slice aA N ac) uv kv)∧Fr [] w wx∧Pr S wx (.slice A1 L1.length c1) (L1))
        case first=>
         go_wp2_with (first
           | ((with_reducible refine gate_load 41 (.tmp 1) ?_);refine wpList_load_blk rfl 41 (.tmp 1) rfl w.heap.size 41 (arE zz (.slice aA N ac) uv kv) _ rfl (LZ.out _ (by first|exact Fr.refl _ _|assumption)).s Tryz.underlying41 rfl (by kernel_rfl) ?_)
           | (go_at_call 27;refine (HRE.out _ (LZ.out _ (Fr.refl _ _)).f).mono ?_;rintro e w6 ⟨rfl,f6⟩)
           | ((with_reducible refine gate_store 41 (.tmp 2) ?_);refine wpList_store_blk rfl 41 (.tmp 2) (.tmp 124) rfl (w.heap.size+1) 41 endZ (arE rz (.slice aA N ac) uv kv) rfl rfl (LZ.out _ f6).r rfl (by kernel_rfl) (by first|exact o1.out _|exact o2.out _|simp [Value.oneCell']) ?_;intro w8 B8 F8))
         go_meet
         exact⟨rfl,B8,(LZ.out _ f6).res F8,((PRD.out).fr f6 (by simp) (by simp) (fun _ h=>h)).fr F8 (fun z hz=>by simp at hz;subst hz;exact NSb.out _ (by omega)) (fun b hb hm=>by simp at hm;have:=HOB.out b hb;omega) (fun _ h=>h)⟩
        case rest=>
         obtain⟨rfl,Bz,Fz,Pz⟩:=hcut
         refine ‹∀(a:Act) (w:World),Code.wp Tryz.prog Code.ret _ a w→_› _ _ (wp_ret ?_)
         try simp only [Exit.then]
         change bodyPost Tryz.prog _ _ .ret _ _
         refine bodyPost_ret (results_ct 2 41 ⟨w.heap.size+1,0,none⟩ _ 3 ((.slice A1 L1.length c1)) (by rfl) (by rfl) (end_load Bz) (by rfl)) (by rfl) ?_
         exact⟨(.slice A1 L1.length c1),L1,by rw [HZ.out.1],HZ.out.2.symm,Pz,Fz⟩
     ·have HC2:Hid (closesV y=({ shows y with fin:=true },[partV y 6 y.all.length []])):=hI (by rw [HCV.out,if_pos rfl])
      clear HCV
      have hpt:=fun W (g:Fr [] w W)=>epart ((M.out.to_ (y:=y) SM.out.all SM.out.unread SM.out.heap).fr g) OK1.out (OU.out.of (y:=y) SM.out.isn SM.out.peer) 6 (N:Int) (by omega) (by have:=HNl.out;omega) none 0 0 []
      have hZ0:R.1=restsV (lastV { shows y with fin:=true })∧R.2=L1.map (·.1)++[partV y 6 N []]:=by rw [HRR.out,HC2.out,HNY.out];exact⟨rfl,rfl⟩
      have hsv:shows y={ y with shown:=roomV y }:=rfl
      have hpd:(partV y 6 N []).d=[]:=rfl
      rw [hsv] at hpt hZ0
      generalize roomV y=rv at *
      generalize partV y 6 N []=pt at *
      obtain⟨pf,ps,pk,pw,pd⟩:=pt
      dsimp only at hpd
      subst hpd
      have HPT:=hI hpt
      have HZ0:=hI hZ0
      clear hpt hZ0 hsv HC2 HRR
      have c5:wc.cell? ⟨w.heap.size,4,none⟩=some (.slice aA N ac):=(LY.out _ (Fr.refl _ _)).s.cell 4
      go_upto_region 14 with (first
       | ((with_reducible refine gate_load 41 (.tmp 1) ?_);refine wpList_load_blk rfl 41 (.tmp 1) rfl w.heap.size 41 (arE y (.slice aA N ac) uv kv) _ rfl (LY.out _ (by first|exact Fr.refl _ _|assumption)).s Tryz.underlying41 rfl (by kernel_rfl) ?_)
       | (go_at_call 81;refine (HPT.out _ (LY.out _ (Fr.refl _ _)).f).mono ?_;rintro e w5 ⟨rfl,f5⟩;have BP:Blk ((w5.alloc (.cells endZ 41)).alloc (.cells prt0 49)) (w5.heap.size+1) 49 prt0:=by have hh:=Blk.new (w5.alloc (.cells endZ 41)) 49 prt0;rw [World.size_alloc] at hh;exact hh)
       | ((with_reducible refine gate_store 41 (.tmp 12) ?_);refine wpList_store_blk rfl 41 (.tmp 12) (.tmp 103) rfl w5.heap.size 41 endZ (arE { y with shown:=rv } (.slice aA N ac) uv kv) rfl rfl ((Blk.new w5 41 endZ).fr ((Fr.refl [] _).alloc _) (by simp)) rfl (by kernel_rfl) (by first|exact o1.out _|exact o2.out _|simp [Value.oneCell']) ?_;intro w6 B6 F6)
       | ((with_reducible refine gate_store 49 (.tmp 13) ?_);refine wpList_store_blk rfl 49 (.tmp 13) (.tmp 104) rfl (w5.heap.size+1) 49 prt0 (arP ⟨pf,ps,pk,pw,[]⟩ (.slice none 0 0)) rfl rfl (BP.fr F6 (by simp)) rfl (by kernel_rfl) (by first|exact o1.out _|exact o2.out _|simp [Value.oneCell']) ?_;intro w7 B7 F7))
      have n6:w.heap.size+1<w5.heap.size:=(LY.out _ f5).r.lt
      have L7:Hid (∀ W,Fr [] w7 W→Lo w W w.heap.size (w.heap.size+1) (arE y (.slice aA N ac) uv kv)):=hI (fun W f=>(((LY.out _ ((f5.alloc (.cells endZ 41)).alloc (.cells prt0 49))).far F6 (by have:=(LY.out _ f5).f.size;omega) (by omega) (by omega)).far F7 (by have:=(LY.out _ f5).f.size;omega) (by omega) (by omega)).grow f)
      have V6:Hid (Blk w7 w5.heap.size 41 (arE { y with shown:=rv } (.slice aA N ac) uv kv)):=hI (B6.fr F7 (by simp))
      have V7:=hI B7
      have FZ:Hid (Fr [] wc w7):=hI (((((f5.alloc (.cells endZ 41)).alloc (.cells prt0 49)).trans F6 (fun z hz => .inr (by simp at hz;have:=f5.size;omega)))).trans F7 (fun z hz => .inr (by simp at hz;have:=f5.size;omega)))
      have N6:=hI n6
      generalize hb10:w5.heap.size=b10 at *
      clear F6 B6 F7 B7 f5 BP c5 hb10 n6
      go_upto_region 15 with (first
       | ((with_reducible refine gate_load 41 (.tmp 12) ?_);refine wpList_load_blk rfl 41 (.tmp 12) rfl b10 41 (arE { y with shown:=rv } (.slice aA N ac) uv kv) _ rfl V6.out Tryz.underlying41 rfl (by kernel_rfl) ?_)
       | ((with_reducible refine gate_store 41 (.tmp 1) ?_);refine wpList_store_blk rfl 41 (.tmp 1) (.tmp 105) rfl w.heap.size 41 (arE y (.slice aA N ac) uv kv) (arE { y with shown:=rv } (.slice aA N ac) uv kv) rfl rfl (L7.out _ (by first|exact Fr.refl _ _|assumption)).s rfl (by kernel_rfl) (by first|exact o1.out _|exact o2.out _|simp [Value.oneCell']) ?_;intro w9 B9 F9))
      have FA9:Hid (Fr [w.heap.size] wc w9):=hI ((FZ.out.mono (by simp)).trans F9 (fun z hz => .inl hz))
      have L9:Hid (∀ W,Fr [] w9 W→Lo w W w.heap.size (w.heap.size+1) (arE { y with shown:=rv } (.slice aA N ac) uv kv)):=hI (fun W f=>((L7.out _ (Fr.refl _ _)).set F9 B9).grow f)
      have V9:Hid (Blk w9 (b10+1) 49 (arP ⟨pf,ps,pk,pw,[]⟩ (.slice none 0 0))):=hI (V7.out.fr F9 (by have:=N6.out;simp;omega))
      have PR9:Hid (Pr S w9 (.slice A1 L1.length c1) L1):=hI (PRY.out.fr FA9.out (fun z hz=>by simp at hz;subst hz;exact NSb.out _ (Nat.le_refl _)) (fun b hb hm=>by simp at hm;have:=HOB.out b hb;omega) (fun _ h=>h))
      have BY9:Hid (Byt S w9 (.slice none 0 0) []):=hI Byt.nil
      have HW9:=hI (lies_part (p:=⟨pf,ps,pk,pw,[]⟩) PR9.out (Fr.refl [w.heap.size] w9) (fun z hz=>by have:=HOB.out z hz;omega) BY9.out)
      have HLM:Hid (L1.length+1≤maxLen):=hI (by unfold maxLen;have:=HS.out.2.1;have:=Win.Inv.bd OK1.out.hw;have:=HMN.out;omega)
      have HLB:Hid ((L1.length+1) * 48≤140737488355328):=hI (by have:=HS.out.2.1;have:=Win.Inv.bd OK1.out.hw;have:=HMN.out;omega)
      obtain⟨i0,hi0,hz0,hz1,hz2⟩:=info_parts info_part
      clear F9 B9 V6 V7
      go_upto_region 16 with (first
       | ((with_reducible refine gate_load 49 (.tmp 13) ?_);refine wpList_load_blk rfl 49 (.tmp 13) rfl (b10+1) 49 (arP ⟨pf,ps,pk,pw,[]⟩ (.slice none 0 0)) _ rfl V9.out Tryz.underlying49 rfl (by kernel_rfl) ?_)
       | (at_builtin;refine wpList_append_sl _ rfl (.tmp 106) (.tmp 108) 27 rfl 49 i0 (.agg #[.int .i64 0, .int .u32 0, .int .u32 0, .int .u16 0, .slice none 0 0]) 5 48 Tryz.underlying27 hi0 hz0 hz1 hz2 rfl (by decide) (.slice A1 L1.length c1) L1.length (prs L1) (by rfl) HW9.out.1 (fun _=>True) (.slice (some ⟨w9.heap.size,0,none⟩) 1 1) 1 [.int .i64 pf, .int .u32 ps, .int .u32 pk, .int .u16 pw, .slice none 0 0] (by rfl) HW9.out.2 (one5 ⟨pf,ps,pk,pw,[]⟩ _ _ _) HLM.out HLB.out (L1.length+1) rfl ?_;intro A7 c7 W10 h10 h11 h12;have H10:=hI h10;have H11:=hI h11;have H12:=hI h12;clear h10 h11 h12))
      have fa:Fr [] w9 (w9.alloc (.cells (arP ⟨pf,ps,pk,pw,[]⟩ (.slice none 0 0)) 49)):=(Fr.refl [] w9).alloc _
      have lx:=L9.out _ fa
      have l10:Lo w W10 w.heap.size (w.heap.size+1) (arE { y with shown:=rv } (.slice aA N ac) uv kv):=⟨lx.f.trans H11.out (fun z hz => .inr (by have:=HOB.out z hz;omega)),lx.s.fr H11.out (fun hm=>by have:=HOB.out _ hm;omega),lx.r.fr H11.out (fun hm=>by have:=HOB.out _ hm;omega),lx.n1,lx.n2,lx.n3⟩
      have PR10:Hid (Pr S W10 (.slice A7 (L1.length+1) c7) (L1++[(⟨pf,ps,pk,pw,[]⟩, .slice none 0 0)])):=hI (Pr.app (PR9.out.fr fa (by simp) (by simp) (fun _ h=>h)) H10.out H11.out (fun b hb=>NSb.out b (by have:=HOB.out b hb;omega)) (BY9.out.fr fa (by simp)))
      have FR10:Hid (∀ b∈ob (.slice A7 (L1.length+1) c7),w.heap.size+1<b):=hI (fun b hb=>by
       have h0:=(L9.out w9 (Fr.refl _ _)).r.lt
       rcases H12.out b (mem_ob.1 hb) with h|h
       ·exact HOB.out b (mem_ob.2 h)
       ·have:=h.1;simp at this;omega)
      have c26:W10.cell? ⟨w.heap.size,26,none⟩=some (.bool y.fin):=l10.s.cell 26
      have z26:=l10.s.frozen 26
      have hlb:=l10.s.lt
      have lw:Lo w (W10.setCell ⟨w.heap.size,26,none⟩ (.bool true)) w.heap.size (w.heap.size+1) (arE { y with shown:=rv,fin:=true } (.slice aA N ac) uv kv):=by
       have hh:=l10.cell 26 (.bool true)
       simp only [arE,zqA,zqB,zqC] at hh ⊢
       exact hh
      have LV:=hI lw
      have PRV:Hid (Pr S (W10.setCell ⟨w.heap.size,26,none⟩ (.bool true)) (.slice A7 (L1.length+1) c7) (L1++[(⟨pf,ps,pk,pw,[]⟩, .slice none 0 0)])):=hI (PR10.out.fr ((Fr.refl [w.heap.size] W10).setCell (p:=⟨w.heap.size,26,none⟩) (.inl (by simp)) (.bool true)) (fun z hz=>by simp at hz;subst hz;exact NSb.out _ (Nat.le_refl _)) (fun b hb hm=>by simp at hm;have:=FR10.out b hb;omega) (fun _ h=>h))
      clear fa lx l10 lw
      go_upto_region 17 with fail
      generalize W10.setCell ⟨w.heap.size,26,none⟩ (.bool true)=wv at *
      have LY2:Hid (∀ W,Fr [] wv W→Lo w W w.heap.size (w.heap.size+1) (arE { y with shown:=rv,fin:=true } (.slice aA N ac) uv kv)):=hI (fun W f=>LV.out.grow f)
      clear c26 z26 hlb LV
      have c:=ecells (LY2.out _ (Fr.refl _ _)).s
      have c2:wv.cell? ⟨w.heap.size,2,none⟩=some (.int .i64 4):=by rw [← HA1.out];exact c.c2
      have c27:wv.cell? ⟨w.heap.size,27,none⟩=some (.bool y.acked):=c.c27
      have c28:wv.cell? ⟨w.heap.size,28,none⟩=some (.bool y.ended):=c.c28
      have z2:=(LY2.out _ (Fr.refl _ _)).s.frozen 2
      have hlb:=(LY2.out _ (Fr.refl _ _)).s.lt
      have hlast:lastV { y with shown:=rv,fin:=true }=if y.ended && y.acked then doneV { y with shown:=rv,fin:=true } false else { y with shown:=rv,fin:=true }:=rfl
      have HLAST:=hI hlast
      clear c hlast
      cases he:y.ended
      ·rw [he] at c28
       have HZ:Hid (R.1=restsV { y with shown:=rv,fin:=true }∧R.2=(L1++[((⟨pf,ps,pk,pw,[]⟩:Prt),(Value.slice none 0 0))]).map (·.1)):=hI (by have h:=HZ0.out;rw [HLAST.out,if_neg (by rw [he];simp)] at h;exact⟨h.1,by simpa using h.2⟩)
       clear HZ0 HLAST he
       have hre:=fun W (g:Fr [] w W)=>erests ((M.out.to_ (y:={ y with shown:=rv,fin:=true }) SM.out.all SM.out.unread SM.out.heap).fr g) (show Rto.Inv y.clk from OK1.out.hc)
       generalize restsV { y with shown:=rv,fin:=true }=rz at *
       have HRE:=hI hre
       clear hre
       have LZ:Hid (∀ W,Fr [] wv W→Lo w W w.heap.size (w.heap.size+1) (arE { y with shown:=rv,fin:=true } (.slice aA N ac) uv kv)):=LY2
       go_upto_region 19 with fail
       generalize ({ y with shown:=rv,fin:=true }:St)=zz at *
       go_cut [3] (fun s3 wx=>s3=(.slice A7 (L1.length+1) c7)∧Blk wx (w.heap.size+1) 41 (arE rz (.slice aA N ac) uv kv)∧Fr [] w wx∧Pr S wx (.slice A7 (L1.length+1) c7) (L1++[((⟨pf,ps,pk,pw,[]⟩:Prt),(Value.slice none 0 0))]))
       case first=>
        clear c2 c27 c28 z2 hlb
        go_wp2_with (first
          | ((with_reducible refine gate_load 41 (.tmp 1) ?_);refine wpList_load_blk rfl 41 (.tmp 1) rfl w.heap.size 41 (arE zz (.slice aA N ac) uv kv) _ rfl (LZ.out _ (by first|exact Fr.refl _ _|assumption)).s Tryz.underlying41 rfl (by kernel_rfl) ?_)
          | (go_at_call 27;refine (HRE.out _ (LZ.out _ (Fr.refl _ _)).f).mono ?_;rintro e w6 ⟨rfl,f6⟩)
          | ((with_reducible refine gate_store 41 (.tmp 2) ?_);refine wpList_store_blk rfl 41 (.tmp 2) (.tmp 124) rfl (w.heap.size+1) 41 endZ (arE rz (.slice aA N ac) uv kv) rfl rfl (LZ.out _ f6).r rfl (by kernel_rfl) (by first|exact o1.out _|exact o2.out _|simp [Value.oneCell']) ?_;intro w8 B8 F8))
        go_meet
        exact⟨rfl,B8,(LZ.out _ f6).res F8,((PRV.out).fr f6 (by simp) (by simp) (fun _ h=>h)).fr F8 (fun z hz=>by simp at hz;subst hz;exact NSb.out _ (by omega)) (fun b hb hm=>by simp at hm;have:=FR10.out b hb;omega) (fun _ h=>h)⟩
       case rest=>
        obtain⟨rfl,Bz,Fz,Pz⟩:=hcut
        refine ‹∀(a:Act) (w:World),Code.wp Tryz.prog Code.ret _ a w→_› _ _ (wp_ret ?_)
        try simp only [Exit.then]
        change bodyPost Tryz.prog _ _ .ret _ _
        refine bodyPost_ret (results_ct 2 41 ⟨w.heap.size+1,0,none⟩ _ 3 ((.slice A7 (L1.length+1) c7)) (by rfl) (by rfl) (end_load Bz) (by rfl)) (by rfl) ?_
        exact⟨(.slice A7 (L1.length+1) c7),L1++[((⟨pf,ps,pk,pw,[]⟩:Prt),(Value.slice none 0 0))],by rw [HZ.out.1],HZ.out.2.symm,Pz,Fz⟩
      ·rw [he] at c28
       have hend:=he
       clear he
       cases he:y.acked
       ·rw [he] at c27
        have HZ:Hid (R.1=restsV { y with shown:=rv,fin:=true }∧R.2=(L1++[((⟨pf,ps,pk,pw,[]⟩:Prt),(Value.slice none 0 0))]).map (·.1)):=hI (by have h:=HZ0.out;rw [HLAST.out,if_neg (by rw [hend,he];simp)] at h;exact⟨h.1,by simpa using h.2⟩)
        clear HZ0 HLAST he
        have hre:=fun W (g:Fr [] w W)=>erests ((M.out.to_ (y:={ y with shown:=rv,fin:=true }) SM.out.all SM.out.unread SM.out.heap).fr g) (show Rto.Inv y.clk from OK1.out.hc)
        generalize restsV { y with shown:=rv,fin:=true }=rz at *
        have HRE:=hI hre
        clear hre
        have LZ:Hid (∀ W,Fr [] wv W→Lo w W w.heap.size (w.heap.size+1) (arE { y with shown:=rv,fin:=true } (.slice aA N ac) uv kv)):=LY2
        go_upto_region 19 with fail
        generalize ({ y with shown:=rv,fin:=true }:St)=zz at *
        go_cut [3] (fun s3 wx=>s3=(.slice A7 (L1.length+1) c7)∧Blk wx (w.heap.size+1) 41 (arE rz (.slice aA N ac) uv kv)∧Fr [] w wx∧Pr S wx (.slice A7 (L1.length+1) c7) (L1++[((⟨pf,ps,pk,pw,[]⟩:Prt),(Value.slice none 0 0))]))
        case first=>
         clear c2 c27 c28 z2 hlb
         go_wp2_with (first
           | ((with_reducible refine gate_load 41 (.tmp 1) ?_);refine wpList_load_blk rfl 41 (.tmp 1) rfl w.heap.size 41 (arE zz (.slice aA N ac) uv kv) _ rfl (LZ.out _ (by first|exact Fr.refl _ _|assumption)).s Tryz.underlying41 rfl (by kernel_rfl) ?_)
           | (go_at_call 27;refine (HRE.out _ (LZ.out _ (Fr.refl _ _)).f).mono ?_;rintro e w6 ⟨rfl,f6⟩)
           | ((with_reducible refine gate_store 41 (.tmp 2) ?_);refine wpList_store_blk rfl 41 (.tmp 2) (.tmp 124) rfl (w.heap.size+1) 41 endZ (arE rz (.slice aA N ac) uv kv) rfl rfl (LZ.out _ f6).r rfl (by kernel_rfl) (by first|exact o1.out _|exact o2.out _|simp [Value.oneCell']) ?_;intro w8 B8 F8))
         go_meet
         exact⟨rfl,B8,(LZ.out _ f6).res F8,((PRV.out).fr f6 (by simp) (by simp) (fun _ h=>h)).fr F8 (fun z hz=>by simp at hz;subst hz;exact NSb.out _ (by omega)) (fun b hb hm=>by simp at hm;have:=FR10.out b hb;omega) (fun _ h=>h)⟩
        case rest=>
         obtain⟨rfl,Bz,Fz,Pz⟩:=hcut
         refine ‹∀(a:Act) (w:World),Code.wp Tryz.prog Code.ret _ a w→_› _ _ (wp_ret ?_)
         try simp only [Exit.then]
         change bodyPost Tryz.prog _ _ .ret _ _
         refine bodyPost_ret (results_ct 2 41 ⟨w.heap.size+1,0,none⟩ _ 3 ((.slice A7 (L1.length+1) c7)) (by rfl) (by rfl) (end_load Bz) (by rfl)) (by rfl) ?_
         exact⟨(.slice A7 (L1.length+1) c7),L1++[((⟨pf,ps,pk,pw,[]⟩:Prt),(Value.slice none 0 0))],by rw [HZ.out.1],HZ.out.2.symm,Pz,Fz⟩
       ·rw [he] at c27
        have lw:Lo w (wv.setCell ⟨w.heap.size,2,none⟩ (.int .i64 5)) w.heap.size (w.heap.size+1) (arE { y with shown:=rv,fin:=true,at_:=5,broken:=false } (.slice aA N ac) uv kv):=by
         have hh:=(LY2.out _ (Fr.refl _ _)).cell 2 (.int .i64 5)
         have hb:y.broken=false:=by rw [SM.out.broken];exact HBK.out
         simp only [arE,hb,zqA,zqB,zqC] at hh ⊢
         exact hh
        have LV:=hI lw
        have PRD:Hid (Pr S (wv.setCell ⟨w.heap.size,2,none⟩ (.int .i64 5)) ((.slice A7 (L1.length+1) c7)) (L1++[((⟨pf,ps,pk,pw,[]⟩:Prt),(Value.slice none 0 0))])):=hI (PRV.out.fr ((Fr.refl [w.heap.size] wv).setCell (p:=⟨w.heap.size,2,none⟩) (.inl (by simp)) (.int .i64 5)) (fun z hz=>by simp at hz;subst hz;exact NSb.out _ (Nat.le_refl _)) (fun b hb hm=>by simp at hm;have:=FR10.out b hb;omega) (fun _ h=>h))
        clear lw
        have HZ:Hid (R.1=restsV { y with shown:=rv,fin:=true,at_:=5,broken:=false }∧R.2=(L1++[((⟨pf,ps,pk,pw,[]⟩:Prt),(Value.slice none 0 0))]).map (·.1)):=hI (by have h:=HZ0.out;rw [HLAST.out,if_pos (by rw [hend,he];rfl)] at h;exact⟨h.1,by simpa using h.2⟩)
        clear HZ0 HLAST he
        have hre:=fun W (g:Fr [] w W)=>erests ((M.out.to_ (y:={ y with shown:=rv,fin:=true,at_:=5,broken:=false }) SM.out.all SM.out.unread SM.out.heap).fr g) (show Rto.Inv y.clk from OK1.out.hc)
        generalize restsV { y with shown:=rv,fin:=true,at_:=5,broken:=false }=rz at *
        have HRE:=hI hre
        clear hre
        have LZ:Hid (∀ W,Fr [] (wv.setCell ⟨w.heap.size,2,none⟩ (.int .i64 5)) W→Lo w W w.heap.size (w.heap.size+1) (arE { y with shown:=rv,fin:=true,at_:=5,broken:=false } (.slice aA N ac) uv kv)):=hI (fun W f=>LV.out.grow f)
        go_upto_region 19 with fail
        clear c2 c27 c28 z2 hlb LV
        generalize ({ y with shown:=rv,fin:=true,at_:=5,broken:=false }:St)=zz at *
        generalize wv.setCell ⟨w.heap.size,2,none⟩ (.int .i64 5)=wd at *
        go_cut [3] (fun s3 wx=>s3=(.slice A7 (L1.length+1) c7)∧Blk wx (w.heap.size+1) 41 (arE rz (.slice aA N ac) uv kv)∧Fr [] w wx∧Pr S wx (.slice A7 (L1.length+1) c7) (L1++[((⟨pf,ps,pk,pw,[]⟩:Prt),(Value.slice none 0 0))]))
        case first=>
         go_wp2_with (first
           | ((with_reducible refine gate_load 41 (.tmp 1) ?_);refine wpList_load_blk rfl 41 (.tmp 1) rfl w.heap.size 41 (arE zz (.slice aA N ac) uv kv) _ rfl (LZ.out _ (by first|exact Fr.refl _ _|assumption)).s Tryz.underlying41 rfl (by kernel_rfl) ?_)
           | (go_at_call 27;refine (HRE.out _ (LZ.out _ (Fr.refl _ _)).f).mono ?_;rintro e w6 ⟨rfl,f6⟩)
           | ((with_reducible refine gate_store 41 (.tmp 2) ?_);refine wpList_store_blk rfl 41 (.tmp 2) (.tmp 124) rfl (w.heap.size+1) 41 endZ (arE rz (.slice aA N ac) uv kv) rfl rfl (LZ.out _ f6).r rfl (by kernel_rfl) (by first|exact o1.out _|exact o2.out _|simp [Value.oneCell']) ?_;intro w8 B8 F8))
         go_meet
         exact⟨rfl,B8,(LZ.out _ f6).res F8,((PRD.out).fr f6 (by simp) (by simp) (fun _ h=>h)).fr F8 (fun z hz=>by simp at hz;subst hz;exact NSb.out _ (by omega)) (fun b hb hm=>by simp at hm;have:=FR10.out b hb;omega) (fun _ h=>h)⟩
        case rest=>
         obtain⟨rfl,Bz,Fz,Pz⟩:=hcut
         refine ‹∀(a:Act) (w:World),Code.wp Tryz.prog Code.ret _ a w→_› _ _ (wp_ret ?_)
         try simp only [Exit.then]
         change bodyPost Tryz.prog _ _ .ret _ _
         refine bodyPost_ret (results_ct 2 41 ⟨w.heap.size+1,0,none⟩ _ 3 ((.slice A7 (L1.length+1) c7)) (by rfl) (by rfl) (end_load Bz) (by rfl)) (by rfl) ?_
         exact⟨(.slice A7 (L1.length+1) c7),L1++[((⟨pf,ps,pk,pw,[]⟩:Prt),(Value.slice none 0 0))],by rw [HZ.out.1],HZ.out.2.symm,Pz,Fz⟩
   ·clear hex
    go_upto_region 12 with fail
    have LX:Hid (∀ W,Fr [] wr W→Lo w W w.heap.size (w.heap.size+1) (arE y (.slice aA N ac) uv kv)):=LR
    have FX:Hid (Fr [] wr wr):=hI (Fr.refl _ _)
    clear t1 c2 c6 c7 c8 c9 LR
    have hfv:finsV y=(y.closing && decide (y.win.s=(N:Int)) && !y.fin):=by unfold finsV;rw [HNY.out]
    have hcv:closesV y=if finsV y then ({ shows y with fin:=true },[partV y 6 y.all.length []]) else (y,[]):=rfl
    generalize hgf:finsV y=fv at *
    have HFV:=hI hfv
    have HCV:=hI hcv
    clear hgf hfv hcv
    have NSb:Hid (∀ b,w.heap.size≤b→¬ S b):=hI (fun b hb hs=>by have:=M.out.pub b hs;omega)
    have PRX:Hid (Pr S wr (.slice A1 L1.length c1) L1):=hI (PR1.out.fr FX.out (by simp) (by simp) (fun _ h=>h))
    have c2:wr.cell? ⟨w.heap.size,2,none⟩=some (.int .i64 4):=by rw [← HA1.out];exact (LX.out _ (Fr.refl _ _)).s.cell 2
    have c25:wr.cell? ⟨w.heap.size,25,none⟩=some (.bool y.closing):=(LX.out _ (Fr.refl _ _)).s.cell 25
    have c26:wr.cell? ⟨w.heap.size,26,none⟩=some (.bool y.fin):=(LX.out _ (Fr.refl _ _)).s.cell 26
    have c7:wr.cell? ⟨w.heap.size,7,none⟩=some (.int .i64 y.win.s):=(LX.out _ (Fr.refl _ _)).s.cell 7
    clear FX PR1 HMS HRM
    go_cut [98] (fun s98 wx=>s98 = .bool fv∧Fr [] wr wx)
    case first=>
     have hf:=HFV.out
     generalize y.closing=cl at *
     generalize y.fin=fi at *
     cases cl
     ·simp only [Bool.false_and] at hf
      subst hf
      go_wp2_with fail
      go_meet
      exact⟨rfl,Fr.refl _ _⟩
     ·by_cases hsn:y.win.s=N
      ·have hsd:decide (y.win.s=(N:Int))=true:=by simpa using hsn
       have hsq:(y.win.s == (N:Int))=true:=by simpa using hsn
       clear hsn
       rw [hsd] at hf
       cases fi
       all_goals
        simp only [Bool.not_true,Bool.not_false,Bool.and_true,Bool.true_and,Bool.and_false,Bool.false_and] at hf
        subst hf
        go_wp2_with fail
        go_meet
        exact⟨rfl,Fr.refl _ _⟩
      ·have hsd:decide (y.win.s=(N:Int))=false:=by simpa using hsn
       have hsq:(y.win.s == (N:Int))=false:=by simpa using hsn
       clear hsn
       rw [hsd] at hf
       simp only [Bool.not_true,Bool.not_false,Bool.and_true,Bool.true_and,Bool.and_false,Bool.false_and] at hf
       subst hf
       go_wp2_with fail
       go_meet
       exact⟨rfl,Fr.refl _ _⟩
    case rest=>
     obtain⟨rfl,fx⟩:=hcut
     have LY:Hid (∀ W,Fr [] wc W→Lo w W w.heap.size (w.heap.size+1) (arE y (.slice aA N ac) uv kv)):=hI (fun W f=>(LX.out _ fx).grow f)
     have PRY:Hid (Pr S wc (.slice A1 L1.length c1) L1):=hI (PRX.out.fr fx (by simp) (by simp) (fun _ h=>h))
     clear fx c2 c25 c26 c7 LX PRX HFV
     cases fv
     ·have HC2:Hid (closesV y=(y,[])):=hI (by rw [HCV.out,if_neg (by simp)])
      have HZ0:Hid (R.1=restsV (lastV y)∧R.2=L1.map (·.1)):=hI (by rw [HRR.out,HC2.out];exact⟨rfl,by simp⟩)
      clear HCV HC2 HRR
      have c:=ecells (LY.out _ (Fr.refl _ _)).s
      have c2:wc.cell? ⟨w.heap.size,2,none⟩=some (.int .i64 4):=by rw [← HA1.out];exact c.c2
      have c27:wc.cell? ⟨w.heap.size,27,none⟩=some (.bool y.acked):=c.c27
      have c28:wc.cell? ⟨w.heap.size,28,none⟩=some (.bool y.ended):=c.c28
      have z2:=(LY.out _ (Fr.refl _ _)).s.frozen 2
      have hlb:=(LY.out _ (Fr.refl _ _)).s.lt
      have hlast:lastV y=if y.ended && y.acked then doneV y false else y:=rfl
      have HLAST:=hI hlast
      clear c hlast
      cases he:y.ended
      ·rw [he] at c28
       have HZ:Hid (R.1=restsV y∧R.2=(L1).map (·.1)):=hI (by have h:=HZ0.out;rw [HLAST.out,if_neg (by rw [he];simp)] at h;exact⟨h.1,by simpa using h.2⟩)
       clear HZ0 HLAST he
       have hre:=fun W (g:Fr [] w W)=>erests ((M.out.to_ (y:=y) SM.out.all SM.out.unread SM.out.heap).fr g) (show Rto.Inv y.clk from OK1.out.hc)
       generalize restsV y=rz at *
       have HRE:=hI hre
       clear hre
       have LZ:Hid (∀ W,Fr [] wc W→Lo w W w.heap.size (w.heap.size+1) (arE y (.slice aA N ac) uv kv)):=LY
       go_upto_region 19 with fail
       go_cut [3] (fun s3 wx=>s3=(.slice A1 L1.length c1)∧Blk wx (w.heap.size+1) 41 (arE rz (.slice aA N ac) uv kv)∧Fr [] w wx∧Pr S wx (.slice A1 L1.length c1) (L1))
       case first=>
        clear c2 c27 c28 z2 hlb
        go_wp2_with (first
          | ((with_reducible refine gate_load 41 (.tmp 1) ?_);refine wpList_load_blk rfl 41 (.tmp 1) rfl w.heap.size 41 (arE y (.slice aA N ac) uv kv) _ rfl (LZ.out _ (by first|exact Fr.refl _ _|assumption)).s Tryz.underlying41 rfl (by kernel_rfl) ?_)
          | (go_at_call 27;refine (HRE.out _ (LZ.out _ (Fr.refl _ _)).f).mono ?_;rintro e w6 ⟨rfl,f6⟩)
          | ((with_reducible refine gate_store 41 (.tmp 2) ?_);refine wpList_store_blk rfl 41 (.tmp 2) (.tmp 124) rfl (w.heap.size+1) 41 endZ (arE rz (.slice aA N ac) uv kv) rfl rfl (LZ.out _ f6).r rfl (by kernel_rfl) (by first|exact o1.out _|exact o2.out _|simp [Value.oneCell']) ?_;intro w8 B8 F8))
        go_meet
        exact⟨rfl,B8,(LZ.out _ f6).res F8,((PRY.out).fr f6 (by simp) (by simp) (fun _ h=>h)).fr F8 (fun z hz=>by simp at hz;subst hz;exact NSb.out _ (by omega)) (fun b hb hm=>by simp at hm;have:=HOB.out b hb;omega) (fun _ h=>h)⟩
       case rest=>
        obtain⟨rfl,Bz,Fz,Pz⟩:=hcut
        refine ‹∀(a:Act) (w:World),Code.wp Tryz.prog Code.ret _ a w→_› _ _ (wp_ret ?_)
        try simp only [Exit.then]
        change bodyPost Tryz.prog _ _ .ret _ _
        refine bodyPost_ret (results_ct 2 41 ⟨w.heap.size+1,0,none⟩ _ 3 ((.slice A1 L1.length c1)) (by rfl) (by rfl) (end_load Bz) (by rfl)) (by rfl) ?_
        exact⟨(.slice A1 L1.length c1),L1,by rw [HZ.out.1],HZ.out.2.symm,Pz,Fz⟩
      ·rw [he] at c28
       have hend:=he
       clear he
       cases he:y.acked
       ·rw [he] at c27
        have HZ:Hid (R.1=restsV y∧R.2=(L1).map (·.1)):=hI (by have h:=HZ0.out;rw [HLAST.out,if_neg (by rw [hend,he];simp)] at h;exact⟨h.1,by simpa using h.2⟩)
        clear HZ0 HLAST he
        have hre:=fun W (g:Fr [] w W)=>erests ((M.out.to_ (y:=y) SM.out.all SM.out.unread SM.out.heap).fr g) (show Rto.Inv y.clk from OK1.out.hc)
        generalize restsV y=rz at *
        have HRE:=hI hre
        clear hre
        have LZ:Hid (∀ W,Fr [] wc W→Lo w W w.heap.size (w.heap.size+1) (arE y (.slice aA N ac) uv kv)):=LY
        go_upto_region 19 with fail
        go_cut [3] (fun s3 wx=>s3=(.slice A1 L1.length c1)∧Blk wx (w.heap.size+1) 41 (arE rz (.slice aA N ac) uv kv)∧Fr [] w wx∧Pr S wx (.slice A1 L1.length c1) (L1))
        case first=>
         clear c2 c27 c28 z2 hlb
         go_wp2_with (first
           | ((with_reducible refine gate_load 41 (.tmp 1) ?_);refine wpList_load_blk rfl 41 (.tmp 1) rfl w.heap.size 41 (arE y (.slice aA N ac) uv kv) _ rfl (LZ.out _ (by first|exact Fr.refl _ _|assumption)).s Tryz.underlying41 rfl (by kernel_rfl) ?_)
           | (go_at_call 27;refine (HRE.out _ (LZ.out _ (Fr.refl _ _)).f).mono ?_;rintro e w6 ⟨rfl,f6⟩)
           | ((with_reducible refine gate_store 41 (.tmp 2) ?_);refine wpList_store_blk rfl 41 (.tmp 2) (.tmp 124) rfl (w.heap.size+1) 41 endZ (arE rz (.slice aA N ac) uv kv) rfl rfl (LZ.out _ f6).r rfl (by kernel_rfl) (by first|exact o1.out _|exact o2.out _|simp [Value.oneCell']) ?_;intro w8 B8 F8))
         go_meet
         exact⟨rfl,B8,(LZ.out _ f6).res F8,((PRY.out).fr f6 (by simp) (by simp) (fun _ h=>h)).fr F8 (fun z hz=>by simp at hz;subst hz;exact NSb.out _ (by omega)) (fun b hb hm=>by simp at hm;have:=HOB.out b hb;omega) (fun _ h=>h)⟩
        case rest=>
         obtain⟨rfl,Bz,Fz,Pz⟩:=hcut
         refine ‹∀(a:Act) (w:World),Code.wp Tryz.prog Code.ret _ a w→_› _ _ (wp_ret ?_)
         try simp only [Exit.then]
         change bodyPost Tryz.prog _ _ .ret _ _
         refine bodyPost_ret (results_ct 2 41 ⟨w.heap.size+1,0,none⟩ _ 3 ((.slice A1 L1.length c1)) (by rfl) (by rfl) (end_load Bz) (by rfl)) (by rfl) ?_
         exact⟨(.slice A1 L1.length c1),L1,by rw [HZ.out.1],HZ.out.2.symm,Pz,Fz⟩
       ·rw [he] at c27
        have lw:Lo w (wc.setCell ⟨w.heap.size,2,none⟩ (.int .i64 5)) w.heap.size (w.heap.size+1) (arE { y with at_:=5,broken:=false } (.slice aA N ac) uv kv):=by
         have hh:=(LY.out _ (Fr.refl _ _)).cell 2 (.int .i64 5)
         have hb:y.broken=false:=by rw [SM.out.broken];exact HBK.out
         simp only [arE,hb,zqA,zqB,zqC] at hh ⊢
         exact hh
        have LV:=hI lw
        have PRD:Hid (Pr S (wc.setCell ⟨w.heap.size,2,none⟩ (.int .i64 5)) ((.slice A1 L1.length c1)) (L1)):=hI (PRY.out.fr ((Fr.refl [w.heap.size] wc).setCell (p:=⟨w.heap.size,2,none⟩) (.inl (by simp)) (.int .i64 5)) (fun z hz=>by simp at hz;subst hz;exact NSb.out _ (Nat.le_refl _)) (fun b hb hm=>by simp at hm;have:=HOB.out b hb;omega) (fun _ h=>h))
        clear lw
        have HZ:Hid (R.1=restsV { y with at_:=5,broken:=false }∧R.2=(L1).map (·.1)):=hI (by have h:=HZ0.out;rw [HLAST.out,if_pos (by rw [hend,he];rfl)] at h;exact⟨h.1,by simpa using h.2⟩)
        clear HZ0 HLAST he
        have hre:=fun W (g:Fr [] w W)=>erests ((M.out.to_ (y:={ y with at_:=5,broken:=false }) SM.out.all SM.out.unread SM.out.heap).fr g) (show Rto.Inv y.clk from OK1.out.hc)
        generalize restsV { y with at_:=5,broken:=false }=rz at *
        have HRE:=hI hre
        clear hre
        have LZ:Hid (∀ W,Fr [] (wc.setCell ⟨w.heap.size,2,none⟩ (.int .i64 5)) W→Lo w W w.heap.size (w.heap.size+1) (arE { y with at_:=5,broken:=false } (.slice aA N ac) uv kv)):=hI (fun W f=>LV.out.grow f)
        go_upto_region 19 with fail
        clear c2 c27 c28 z2 hlb LV
        generalize ({ y with at_:=5,broken:=false }:St)=zz at *
        generalize wc.setCell ⟨w.heap.size,2,none⟩ (.int .i64 5)=wd at *
        go_cut [3] (fun s3 wx=>s3=(.slice A1 L1.length c1)∧Blk wx (w.heap.size+1) 41 (arE rz (.slice aA N ac) uv kv)∧Fr [] w wx∧Pr S wx (.slice A1 L1.length c1) (L1))
        case first=>
         go_wp2_with (first
           | ((with_reducible refine gate_load 41 (.tmp 1) ?_);refine wpList_load_blk rfl 41 (.tmp 1) rfl w.heap.size 41 (arE zz (.slice aA N ac) uv kv) _ rfl (LZ.out _ (by first|exact Fr.refl _ _|assumption)).s Tryz.underlying41 rfl (by kernel_rfl) ?_)
           | (go_at_call 27;refine (HRE.out _ (LZ.out _ (Fr.refl _ _)).f).mono ?_;rintro e w6 ⟨rfl,f6⟩)
           | ((with_reducible refine gate_store 41 (.tmp 2) ?_);refine wpList_store_blk rfl 41 (.tmp 2) (.tmp 124) rfl (w.heap.size+1) 41 endZ (arE rz (.slice aA N ac) uv kv) rfl rfl (LZ.out _ f6).r rfl (by kernel_rfl) (by first|exact o1.out _|exact o2.out _|simp [Value.oneCell']) ?_;intro w8 B8 F8))
         go_meet
         exact⟨rfl,B8,(LZ.out _ f6).res F8,((PRD.out).fr f6 (by simp) (by simp) (fun _ h=>h)).fr F8 (fun z hz=>by simp at hz;subst hz;exact NSb.out _ (by omega)) (fun b hb hm=>by simp at hm;have:=HOB.out b hb;omega) (fun _ h=>h)⟩
        case rest=>
         obtain⟨rfl,Bz,Fz,Pz⟩:=hcut
         refine ‹∀(a:Act) (w:World),Code.wp Tryz.prog Code.ret _ a w→_› _ _ (wp_ret ?_)
         try simp only [Exit.then]
         change bodyPost Tryz.prog _ _ .ret _ _
         refine bodyPost_ret (results_ct 2 41 ⟨w.heap.size+1,0,none⟩ _ 3 ((.slice A1 L1.length c1)) (by rfl) (by rfl) (end_load Bz) (by rfl)) (by rfl) ?_
         exact⟨(.slice A1 L1.length c1),L1,by rw [HZ.out.1],HZ.out.2.symm,Pz,Fz⟩
     ·have HC2:Hid (closesV y=({ shows y with fin:=true },[partV y 6 y.all.length []])):=hI (by rw [HCV.out,if_pos rfl])
      clear HCV
      have hpt:=fun W (g:Fr [] w W)=>epart ((M.out.to_ (y:=y) SM.out.all SM.out.unread SM.out.heap).fr g) OK1.out (OU.out.of (y:=y) SM.out.isn SM.out.peer) 6 (N:Int) (by omega) (by have:=HNl.out;omega) none 0 0 []
      have hZ0:R.1=restsV (lastV { shows y with fin:=true })∧R.2=L1.map (·.1)++[partV y 6 N []]:=by rw [HRR.out,HC2.out,HNY.out];exact⟨rfl,rfl⟩
      have hsv:shows y={ y with shown:=roomV y }:=rfl
      have hpd:(partV y 6 N []).d=[]:=rfl
      rw [hsv] at hpt hZ0
      generalize roomV y=rv at *
      generalize partV y 6 N []=pt at *
      obtain⟨pf,ps,pk,pw,pd⟩:=pt
      dsimp only at hpd
      subst hpd
      have HPT:=hI hpt
      have HZ0:=hI hZ0
      clear hpt hZ0 hsv HC2 HRR
      have c5:wc.cell? ⟨w.heap.size,4,none⟩=some (.slice aA N ac):=(LY.out _ (Fr.refl _ _)).s.cell 4
      go_upto_region 14 with (first
       | ((with_reducible refine gate_load 41 (.tmp 1) ?_);refine wpList_load_blk rfl 41 (.tmp 1) rfl w.heap.size 41 (arE y (.slice aA N ac) uv kv) _ rfl (LY.out _ (by first|exact Fr.refl _ _|assumption)).s Tryz.underlying41 rfl (by kernel_rfl) ?_)
       | (go_at_call 81;refine (HPT.out _ (LY.out _ (Fr.refl _ _)).f).mono ?_;rintro e w5 ⟨rfl,f5⟩;have BP:Blk ((w5.alloc (.cells endZ 41)).alloc (.cells prt0 49)) (w5.heap.size+1) 49 prt0:=by have hh:=Blk.new (w5.alloc (.cells endZ 41)) 49 prt0;rw [World.size_alloc] at hh;exact hh)
       | ((with_reducible refine gate_store 41 (.tmp 12) ?_);refine wpList_store_blk rfl 41 (.tmp 12) (.tmp 103) rfl w5.heap.size 41 endZ (arE { y with shown:=rv } (.slice aA N ac) uv kv) rfl rfl ((Blk.new w5 41 endZ).fr ((Fr.refl [] _).alloc _) (by simp)) rfl (by kernel_rfl) (by first|exact o1.out _|exact o2.out _|simp [Value.oneCell']) ?_;intro w6 B6 F6)
       | ((with_reducible refine gate_store 49 (.tmp 13) ?_);refine wpList_store_blk rfl 49 (.tmp 13) (.tmp 104) rfl (w5.heap.size+1) 49 prt0 (arP ⟨pf,ps,pk,pw,[]⟩ (.slice none 0 0)) rfl rfl (BP.fr F6 (by simp)) rfl (by kernel_rfl) (by first|exact o1.out _|exact o2.out _|simp [Value.oneCell']) ?_;intro w7 B7 F7))
      have n6:w.heap.size+1<w5.heap.size:=(LY.out _ f5).r.lt
      have L7:Hid (∀ W,Fr [] w7 W→Lo w W w.heap.size (w.heap.size+1) (arE y (.slice aA N ac) uv kv)):=hI (fun W f=>(((LY.out _ ((f5.alloc (.cells endZ 41)).alloc (.cells prt0 49))).far F6 (by have:=(LY.out _ f5).f.size;omega) (by omega) (by omega)).far F7 (by have:=(LY.out _ f5).f.size;omega) (by omega) (by omega)).grow f)
      have V6:Hid (Blk w7 w5.heap.size 41 (arE { y with shown:=rv } (.slice aA N ac) uv kv)):=hI (B6.fr F7 (by simp))
      have V7:=hI B7
      have FZ:Hid (Fr [] wc w7):=hI (((((f5.alloc (.cells endZ 41)).alloc (.cells prt0 49)).trans F6 (fun z hz => .inr (by simp at hz;have:=f5.size;omega)))).trans F7 (fun z hz => .inr (by simp at hz;have:=f5.size;omega)))
      have N6:=hI n6
      generalize hb10:w5.heap.size=b10 at *
      clear F6 B6 F7 B7 f5 BP c5 hb10 n6
      go_upto_region 15 with (first
       | ((with_reducible refine gate_load 41 (.tmp 12) ?_);refine wpList_load_blk rfl 41 (.tmp 12) rfl b10 41 (arE { y with shown:=rv } (.slice aA N ac) uv kv) _ rfl V6.out Tryz.underlying41 rfl (by kernel_rfl) ?_)
       | ((with_reducible refine gate_store 41 (.tmp 1) ?_);refine wpList_store_blk rfl 41 (.tmp 1) (.tmp 105) rfl w.heap.size 41 (arE y (.slice aA N ac) uv kv) (arE { y with shown:=rv } (.slice aA N ac) uv kv) rfl rfl (L7.out _ (by first|exact Fr.refl _ _|assumption)).s rfl (by kernel_rfl) (by first|exact o1.out _|exact o2.out _|simp [Value.oneCell']) ?_;intro w9 B9 F9))
      have FA9:Hid (Fr [w.heap.size] wc w9):=hI ((FZ.out.mono (by simp)).trans F9 (fun z hz => .inl hz))
      have L9:Hid (∀ W,Fr [] w9 W→Lo w W w.heap.size (w.heap.size+1) (arE { y with shown:=rv } (.slice aA N ac) uv kv)):=hI (fun W f=>((L7.out _ (Fr.refl _ _)).set F9 B9).grow f)
      have V9:Hid (Blk w9 (b10+1) 49 (arP ⟨pf,ps,pk,pw,[]⟩ (.slice none 0 0))):=hI (V7.out.fr F9 (by have:=N6.out;simp;omega))
      have PR9:Hid (Pr S w9 (.slice A1 L1.length c1) L1):=hI (PRY.out.fr FA9.out (fun z hz=>by simp at hz;subst hz;exact NSb.out _ (Nat.le_refl _)) (fun b hb hm=>by simp at hm;have:=HOB.out b hb;omega) (fun _ h=>h))
      have BY9:Hid (Byt S w9 (.slice none 0 0) []):=hI Byt.nil
      have HW9:=hI (lies_part (p:=⟨pf,ps,pk,pw,[]⟩) PR9.out (Fr.refl [w.heap.size] w9) (fun z hz=>by have:=HOB.out z hz;omega) BY9.out)
      have HLM:Hid (L1.length+1≤maxLen):=hI (by unfold maxLen;have:=HS.out.2.1;have:=Win.Inv.bd OK1.out.hw;have:=HMN.out;omega)
      have HLB:Hid ((L1.length+1) * 48≤140737488355328):=hI (by have:=HS.out.2.1;have:=Win.Inv.bd OK1.out.hw;have:=HMN.out;omega)
      obtain⟨i0,hi0,hz0,hz1,hz2⟩:=info_parts info_part
      clear F9 B9 V6 V7
      go_upto_region 16 with (first
       | ((with_reducible refine gate_load 49 (.tmp 13) ?_);refine wpList_load_blk rfl 49 (.tmp 13) rfl (b10+1) 49 (arP ⟨pf,ps,pk,pw,[]⟩ (.slice none 0 0)) _ rfl V9.out Tryz.underlying49 rfl (by kernel_rfl) ?_)
       | (at_builtin;refine wpList_append_sl _ rfl (.tmp 106) (.tmp 108) 27 rfl 49 i0 (.agg #[.int .i64 0, .int .u32 0, .int .u32 0, .int .u16 0, .slice none 0 0]) 5 48 Tryz.underlying27 hi0 hz0 hz1 hz2 rfl (by decide) (.slice A1 L1.length c1) L1.length (prs L1) (by rfl) HW9.out.1 (fun _=>True) (.slice (some ⟨w9.heap.size,0,none⟩) 1 1) 1 [.int .i64 pf, .int .u32 ps, .int .u32 pk, .int .u16 pw, .slice none 0 0] (by rfl) HW9.out.2 (one5 ⟨pf,ps,pk,pw,[]⟩ _ _ _) HLM.out HLB.out (L1.length+1) rfl ?_;intro A7 c7 W10 h10 h11 h12;have H10:=hI h10;have H11:=hI h11;have H12:=hI h12;clear h10 h11 h12))
      have fa:Fr [] w9 (w9.alloc (.cells (arP ⟨pf,ps,pk,pw,[]⟩ (.slice none 0 0)) 49)):=(Fr.refl [] w9).alloc _
      have lx:=L9.out _ fa
      have l10:Lo w W10 w.heap.size (w.heap.size+1) (arE { y with shown:=rv } (.slice aA N ac) uv kv):=⟨lx.f.trans H11.out (fun z hz => .inr (by have:=HOB.out z hz;omega)),lx.s.fr H11.out (fun hm=>by have:=HOB.out _ hm;omega),lx.r.fr H11.out (fun hm=>by have:=HOB.out _ hm;omega),lx.n1,lx.n2,lx.n3⟩
      have PR10:Hid (Pr S W10 (.slice A7 (L1.length+1) c7) (L1++[(⟨pf,ps,pk,pw,[]⟩, .slice none 0 0)])):=hI (Pr.app (PR9.out.fr fa (by simp) (by simp) (fun _ h=>h)) H10.out H11.out (fun b hb=>NSb.out b (by have:=HOB.out b hb;omega)) (BY9.out.fr fa (by simp)))
      have FR10:Hid (∀ b∈ob (.slice A7 (L1.length+1) c7),w.heap.size+1<b):=hI (fun b hb=>by
       have h0:=(L9.out w9 (Fr.refl _ _)).r.lt
       rcases H12.out b (mem_ob.1 hb) with h|h
       ·exact HOB.out b (mem_ob.2 h)
       ·have:=h.1;simp at this;omega)
      have c26:W10.cell? ⟨w.heap.size,26,none⟩=some (.bool y.fin):=l10.s.cell 26
      have z26:=l10.s.frozen 26
      have hlb:=l10.s.lt
      have lw:Lo w (W10.setCell ⟨w.heap.size,26,none⟩ (.bool true)) w.heap.size (w.heap.size+1) (arE { y with shown:=rv,fin:=true } (.slice aA N ac) uv kv):=by
       have hh:=l10.cell 26 (.bool true)
       simp only [arE,zqA,zqB,zqC] at hh ⊢
       exact hh
      have LV:=hI lw
      have PRV:Hid (Pr S (W10.setCell ⟨w.heap.size,26,none⟩ (.bool true)) (.slice A7 (L1.length+1) c7) (L1++[(⟨pf,ps,pk,pw,[]⟩, .slice none 0 0)])):=hI (PR10.out.fr ((Fr.refl [w.heap.size] W10).setCell (p:=⟨w.heap.size,26,none⟩) (.inl (by simp)) (.bool true)) (fun z hz=>by simp at hz;subst hz;exact NSb.out _ (Nat.le_refl _)) (fun b hb hm=>by simp at hm;have:=FR10.out b hb;omega) (fun _ h=>h))
      clear fa lx l10 lw
      go_upto_region 17 with fail
      generalize W10.setCell ⟨w.heap.size,26,none⟩ (.bool true)=wv at *
      have LY2:Hid (∀ W,Fr [] wv W→Lo w W w.heap.size (w.heap.size+1) (arE { y with shown:=rv,fin:=true } (.slice aA N ac) uv kv)):=hI (fun W f=>LV.out.grow f)
      clear c26 z26 hlb LV
      have c:=ecells (LY2.out _ (Fr.refl _ _)).s
      have c2:wv.cell? ⟨w.heap.size,2,none⟩=some (.int .i64 4):=by rw [← HA1.out];exact c.c2
      have c27:wv.cell? ⟨w.heap.size,27,none⟩=some (.bool y.acked):=c.c27
      have c28:wv.cell? ⟨w.heap.size,28,none⟩=some (.bool y.ended):=c.c28
      have z2:=(LY2.out _ (Fr.refl _ _)).s.frozen 2
      have hlb:=(LY2.out _ (Fr.refl _ _)).s.lt
      have hlast:lastV { y with shown:=rv,fin:=true }=if y.ended && y.acked then doneV { y with shown:=rv,fin:=true } false else { y with shown:=rv,fin:=true }:=rfl
      have HLAST:=hI hlast
      clear c hlast
      cases he:y.ended
      ·rw [he] at c28
       have HZ:Hid (R.1=restsV { y with shown:=rv,fin:=true }∧R.2=(L1++[((⟨pf,ps,pk,pw,[]⟩:Prt),(Value.slice none 0 0))]).map (·.1)):=hI (by have h:=HZ0.out;rw [HLAST.out,if_neg (by rw [he];simp)] at h;exact⟨h.1,by simpa using h.2⟩)
       clear HZ0 HLAST he
       have hre:=fun W (g:Fr [] w W)=>erests ((M.out.to_ (y:={ y with shown:=rv,fin:=true }) SM.out.all SM.out.unread SM.out.heap).fr g) (show Rto.Inv y.clk from OK1.out.hc)
       generalize restsV { y with shown:=rv,fin:=true }=rz at *
       have HRE:=hI hre
       clear hre
       have LZ:Hid (∀ W,Fr [] wv W→Lo w W w.heap.size (w.heap.size+1) (arE { y with shown:=rv,fin:=true } (.slice aA N ac) uv kv)):=LY2
       go_upto_region 19 with fail
       generalize ({ y with shown:=rv,fin:=true }:St)=zz at *
       go_cut [3] (fun s3 wx=>s3=(.slice A7 (L1.length+1) c7)∧Blk wx (w.heap.size+1) 41 (arE rz (.slice aA N ac) uv kv)∧Fr [] w wx∧Pr S wx (.slice A7 (L1.length+1) c7) (L1++[((⟨pf,ps,pk,pw,[]⟩:Prt),(Value.slice none 0 0))]))
       case first=>
        clear c2 c27 c28 z2 hlb
        go_wp2_with (first
          | ((with_reducible refine gate_load 41 (.tmp 1) ?_);refine wpList_load_blk rfl 41 (.tmp 1) rfl w.heap.size 41 (arE zz (.slice aA N ac) uv kv) _ rfl (LZ.out _ (by first|exact Fr.refl _ _|assumption)).s Tryz.underlying41 rfl (by kernel_rfl) ?_)
          | (go_at_call 27;refine (HRE.out _ (LZ.out _ (Fr.refl _ _)).f).mono ?_;rintro e w6 ⟨rfl,f6⟩)
          | ((with_reducible refine gate_store 41 (.tmp 2) ?_);refine wpList_store_blk rfl 41 (.tmp 2) (.tmp 124) rfl (w.heap.size+1) 41 endZ (arE rz (.slice aA N ac) uv kv) rfl rfl (LZ.out _ f6).r rfl (by kernel_rfl) (by first|exact o1.out _|exact o2.out _|simp [Value.oneCell']) ?_;intro w8 B8 F8))
        go_meet
        exact⟨rfl,B8,(LZ.out _ f6).res F8,((PRV.out).fr f6 (by simp) (by simp) (fun _ h=>h)).fr F8 (fun z hz=>by simp at hz;subst hz;exact NSb.out _ (by omega)) (fun b hb hm=>by simp at hm;have:=FR10.out b hb;omega) (fun _ h=>h)⟩
       case rest=>
        obtain⟨rfl,Bz,Fz,Pz⟩:=hcut
        refine ‹∀(a:Act) (w:World),Code.wp Tryz.prog Code.ret _ a w→_› _ _ (wp_ret ?_)
        try simp only [Exit.then]
        change bodyPost Tryz.prog _ _ .ret _ _
        refine bodyPost_ret (results_ct 2 41 ⟨w.heap.size+1,0,none⟩ _ 3 ((.slice A7 (L1.length+1) c7)) (by rfl) (by rfl) (end_load Bz) (by rfl)) (by rfl) ?_
        exact⟨(.slice A7 (L1.length+1) c7),L1++[((⟨pf,ps,pk,pw,[]⟩:Prt),(Value.slice none 0 0))],by rw [HZ.out.1],HZ.out.2.symm,Pz,Fz⟩
      ·rw [he] at c28
       have hend:=he
       clear he
       cases he:y.acked
       ·rw [he] at c27
        have HZ:Hid (R.1=restsV { y with shown:=rv,fin:=true }∧R.2=(L1++[((⟨pf,ps,pk,pw,[]⟩:Prt),(Value.slice none 0 0))]).map (·.1)):=hI (by have h:=HZ0.out;rw [HLAST.out,if_neg (by rw [hend,he];simp)] at h;exact⟨h.1,by simpa using h.2⟩)
        clear HZ0 HLAST he
        have hre:=fun W (g:Fr [] w W)=>erests ((M.out.to_ (y:={ y with shown:=rv,fin:=true }) SM.out.all SM.out.unread SM.out.heap).fr g) (show Rto.Inv y.clk from OK1.out.hc)
        generalize restsV { y with shown:=rv,fin:=true }=rz at *
        have HRE:=hI hre
        clear hre
        have LZ:Hid (∀ W,Fr [] wv W→Lo w W w.heap.size (w.heap.size+1) (arE { y with shown:=rv,fin:=true } (.slice aA N ac) uv kv)):=LY2
        go_upto_region 19 with fail
        generalize ({ y with shown:=rv,fin:=true }:St)=zz at *
        go_cut [3] (fun s3 wx=>s3=(.slice A7 (L1.length+1) c7)∧Blk wx (w.heap.size+1) 41 (arE rz (.slice aA N ac) uv kv)∧Fr [] w wx∧Pr S wx (.slice A7 (L1.length+1) c7) (L1++[((⟨pf,ps,pk,pw,[]⟩:Prt),(Value.slice none 0 0))]))
        case first=>
         clear c2 c27 c28 z2 hlb
         go_wp2_with (first
           | ((with_reducible refine gate_load 41 (.tmp 1) ?_);refine wpList_load_blk rfl 41 (.tmp 1) rfl w.heap.size 41 (arE zz (.slice aA N ac) uv kv) _ rfl (LZ.out _ (by first|exact Fr.refl _ _|assumption)).s Tryz.underlying41 rfl (by kernel_rfl) ?_)
           | (go_at_call 27;refine (HRE.out _ (LZ.out _ (Fr.refl _ _)).f).mono ?_;rintro e w6 ⟨rfl,f6⟩)
           | ((with_reducible refine gate_store 41 (.tmp 2) ?_);refine wpList_store_blk rfl 41 (.tmp 2) (.tmp 124) rfl (w.heap.size+1) 41 endZ (arE rz (.slice aA N ac) uv kv) rfl rfl (LZ.out _ f6).r rfl (by kernel_rfl) (by first|exact o1.out _|exact o2.out _|simp [Value.oneCell']) ?_;intro w8 B8 F8))
         go_meet
         exact⟨rfl,B8,(LZ.out _ f6).res F8,((PRV.out).fr f6 (by simp) (by simp) (fun _ h=>h)).fr F8 (fun z hz=>by simp at hz;subst hz;exact NSb.out _ (by omega)) (fun b hb hm=>by simp at hm;have:=FR10.out b hb;omega) (fun _ h=>h)⟩
        case rest=>
         obtain⟨rfl,Bz,Fz,Pz⟩:=hcut
         refine ‹∀(a:Act) (w:World),Code.wp Tryz.prog Code.ret _ a w→_› _ _ (wp_ret ?_)
         try simp only [Exit.then]
         change bodyPost Tryz.prog _ _ .ret _ _
         refine bodyPost_ret (results_ct 2 41 ⟨w.heap.size+1,0,none⟩ _ 3 ((.slice A7 (L1.length+1) c7)) (by rfl) (by rfl) (end_load Bz) (by rfl)) (by rfl) ?_
         exact⟨(.slice A7 (L1.length+1) c7),L1++[((⟨pf,ps,pk,pw,[]⟩:Prt),(Value.slice none 0 0))],by rw [HZ.out.1],HZ.out.2.symm,Pz,Fz⟩
       ·rw [he] at c27
        have lw:Lo w (wv.setCell ⟨w.heap.size,2,none⟩ (.int .i64 5)) w.heap.size (w.heap.size+1) (arE { y with shown:=rv,fin:=true,at_:=5,broken:=false } (.slice aA N ac) uv kv):=by
         have hh:=(LY2.out _ (Fr.refl _ _)).cell 2 (.int .i64 5)
         have hb:y.broken=false:=by rw [SM.out.broken];exact HBK.out
         simp only [arE,hb,zqA,zqB,zqC] at hh ⊢
         exact hh
        have LV:=hI lw
        have PRD:Hid (Pr S (wv.setCell ⟨w.heap.size,2,none⟩ (.int .i64 5)) ((.slice A7 (L1.length+1) c7)) (L1++[((⟨pf,ps,pk,pw,[]⟩:Prt),(Value.slice none 0 0))])):=hI (PRV.out.fr ((Fr.refl [w.heap.size] wv).setCell (p:=⟨w.heap.size,2,none⟩) (.inl (by simp)) (.int .i64 5)) (fun z hz=>by simp at hz;subst hz;exact NSb.out _ (Nat.le_refl _)) (fun b hb hm=>by simp at hm;have:=FR10.out b hb;omega) (fun _ h=>h))
        clear lw
        have HZ:Hid (R.1=restsV { y with shown:=rv,fin:=true,at_:=5,broken:=false }∧R.2=(L1++[((⟨pf,ps,pk,pw,[]⟩:Prt),(Value.slice none 0 0))]).map (·.1)):=hI (by have h:=HZ0.out;rw [HLAST.out,if_pos (by rw [hend,he];rfl)] at h;exact⟨h.1,by simpa using h.2⟩)
        clear HZ0 HLAST he
        have hre:=fun W (g:Fr [] w W)=>erests ((M.out.to_ (y:={ y with shown:=rv,fin:=true,at_:=5,broken:=false }) SM.out.all SM.out.unread SM.out.heap).fr g) (show Rto.Inv y.clk from OK1.out.hc)
        generalize restsV { y with shown:=rv,fin:=true,at_:=5,broken:=false }=rz at *
        have HRE:=hI hre
        clear hre
        have LZ:Hid (∀ W,Fr [] (wv.setCell ⟨w.heap.size,2,none⟩ (.int .i64 5)) W→Lo w W w.heap.size (w.heap.size+1) (arE { y with shown:=rv,fin:=true,at_:=5,broken:=false } (.slice aA N ac) uv kv)):=hI (fun W f=>LV.out.grow f)
        go_upto_region 19 with fail
        clear c2 c27 c28 z2 hlb LV
        generalize ({ y with shown:=rv,fin:=true,at_:=5,broken:=false }:St)=zz at *
        generalize wv.setCell ⟨w.heap.size,2,none⟩ (.int .i64 5)=wd at *
        go_cut [3] (fun s3 wx=>s3=(.slice A7 (L1.length+1) c7)∧Blk wx (w.heap.size+1) 41 (arE rz (.slice aA N ac) uv kv)∧Fr [] w wx∧Pr S wx (.slice A7 (L1.length+1) c7) (L1++[((⟨pf,ps,pk,pw,[]⟩:Prt),(Value.slice none 0 0))]))
        case first=>
         go_wp2_with (first
           | ((with_reducible refine gate_load 41 (.tmp 1) ?_);refine wpList_load_blk rfl 41 (.tmp 1) rfl w.heap.size 41 (arE zz (.slice aA N ac) uv kv) _ rfl (LZ.out _ (by first|exact Fr.refl _ _|assumption)).s Tryz.underlying41 rfl (by kernel_rfl) ?_)
           | (go_at_call 27;refine (HRE.out _ (LZ.out _ (Fr.refl _ _)).f).mono ?_;rintro e w6 ⟨rfl,f6⟩)
           | ((with_reducible refine gate_store 41 (.tmp 2) ?_);refine wpList_store_blk rfl 41 (.tmp 2) (.tmp 124) rfl (w.heap.size+1) 41 endZ (arE rz (.slice aA N ac) uv kv) rfl rfl (LZ.out _ f6).r rfl (by kernel_rfl) (by first|exact o1.out _|exact o2.out _|simp [Value.oneCell']) ?_;intro w8 B8 F8))
         go_meet
         exact⟨rfl,B8,(LZ.out _ f6).res F8,((PRD.out).fr f6 (by simp) (by simp) (fun _ h=>h)).fr F8 (fun z hz=>by simp at hz;subst hz;exact NSb.out _ (by omega)) (fun b hb hm=>by simp at hm;have:=FR10.out b hb;omega) (fun _ h=>h)⟩
        case rest=>
         obtain⟨rfl,Bz,Fz,Pz⟩:=hcut
         refine ‹∀(a:Act) (w:World),Code.wp Tryz.prog Code.ret _ a w→_› _ _ (wp_ret ?_)
         try simp only [Exit.then]
         change bodyPost Tryz.prog _ _ .ret _ _
         refine bodyPost_ret (results_ct 2 41 ⟨w.heap.size+1,0,none⟩ _ 3 ((.slice A7 (L1.length+1) c7)) (by rfl) (by rfl) (end_load Bz) (by rfl)) (by rfl) ?_
         exact⟨(.slice A7 (L1.length+1) c7),L1++[((⟨pf,ps,pk,pw,[]⟩:Prt),(Value.slice none 0 0))],by rw [HZ.out.1],HZ.out.2.symm,Pz,Fz⟩
end Go.Proofs.YtmgdbbbdhkfdmaaGreat
