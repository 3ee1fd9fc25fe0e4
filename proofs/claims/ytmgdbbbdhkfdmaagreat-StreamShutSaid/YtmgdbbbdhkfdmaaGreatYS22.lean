import Derived.Test.YtmgdbbbdhkfdmaaGreatYS21
import Derived.Deep.DeepCutAuto
import Derived.Deep.RegionWith
import Derived.Test.YtmgdbbbdhkfdmaaGreatYS2
import Derived.Test.YtmgdbbbdhkfdmaaGreatYS3
import Derived.Test.YtmgdbbbdhkfdmaaGreatYS4
import Derived.Test.YtmgdbbbdhkfdmaaGreatYS10
set_option linter.unusedSimpArgs false
set_option linter.unusedVariables false
namespace Go.Proofs.YtmgdbbbdhkfdmaaGreat
set_option maxRecDepth 100000
open Go.RowKit Go.Deep
theorem come_end{S S2:Nat→Prop}{w wc w2 w3:World}{H H2:Hd}{y:St × List Prt}{v2:Value}{L2:List (Prt × Value)}{e:Ending}(fc:Fr [] w wc)(hL:L2.map (·.1)=y.2)(x2:Ext wc.drew S S2)(lk:Hd.like wc.drew H H2)(n2:∀ b∈ob v2,wc.drew.heap.size≤b∧¬ S2 b)(f2:Fr H.own wc.drew w2)
  (h:SPost S2 w2 H2 v2 L2 (sendsV y.1) e w3):LPost S w H ((sendsV y.1).1,y.2++(sendsV y.1).2) e w3:=by
 have hz:w.heap.size≤wc.drew.heap.size:=fc.size
 exact sends_post hL (ext_up x2 hz) ⟨lk.g,lk.gw,lk.gc,lk.gh,fun b hb=>(lk.own b hb).imp id (fun h=>by omega)⟩ (fun b hb=>⟨by have:=(n2 b hb).1;omega,(n2 b hb).2⟩) ((fc.drew.mono (by simp)).trans f2 (fun y hy => .inl hy)) h
abbrev arF(g:Nat):Array Value:=#[.nilFunc, .func (.func 51) #[ptr g] #[], .func (.func 52) #[ptr g] #[], .func (.func 53) #[ptr g] #[], .func (.func 54) #[ptr g] #[], .func (.func 55) #[ptr g] #[]]
set_option maxHeartbeats 8000000 in
theorem come_si{S:Nat→Prop}{w:World}{H:Hd}{x:St}(m:SI S w H x)(ok:Ok x)(p:Prt)(w0:0≤p.win)(w1:p.win<65536)(A:Option Addr)(c:Nat)(T:Nat→Prop)(hd:Byt T w (.slice A p.d.length c) p.d)(hT:∀ b,T b→b∉H.own∧b<w.heap.size) :
  Calls Tryz.prog 16 #[ptr H.g,agP p (.slice A p.d.length c)] w (CPost S w H (comeV x p)):=by
 have vn:=comeV_no x p
 have vy:=comeV_yes x p
 have hcl:=comes_len x p
 have hok2:p.d.length≤64→Ok (comesV x p).1:=fun h=>ok.comes p (by omega)
 have hha:∀(W:World) (f:Fr [] w W),0≤p.flags→p.flags≤15→p.d.length≤64→Calls Tryz.prog (handler x.at_) #[ptr H.g,agP p (.slice A p.d.length c)] W (LPost S W H (comesV x p)):=fun W f h1 h2 h3=>
  handler_si (m.fr f) ok p ⟨h1,h2,by omega,w0,w1⟩ A c T (hd.fr f (by simp)) (fun b hb=>⟨(hT b hb).1,Nat.lt_of_lt_of_le (hT b hb).2 f.size⟩)
 generalize hcv:comeV x p=r at *
 generalize hcs:comesV x p=y at *
 obtain⟨fl,sq,ak,wi,d⟩:=p
 dsimp only at *
 have hgl:=m.blk.lt
 have f0:Fr [] w (w.alloc (.cells (arP ⟨fl,sq,ak,wi,d⟩ (.slice A d.length c)) 49)):=(Fr.refl [] w).alloc _
 have b0:Blk (w.alloc (.cells (arP ⟨fl,sq,ak,wi,d⟩ (.slice A d.length c)) 49)) w.heap.size 49 (arP ⟨fl,sq,ak,wi,d⟩ (.slice A d.length c)):=Blk.new w _ _
 have M:=hI m
 have OK:=hI ok
 have VN:=hI vn
 have VY:=hI vy
 have HA:=hI hha
 have HCL:=hI hcl
 have HOK2:=hI hok2
 clear m ok vn vy hha hd hT hcl hok2 hcv hcs
 have c16:=(scells (M.out.fr f0).blk).c16
 have c0:=(scells (M.out.fr f0).blk).c0
 go_enter Tryz.func16,Tryz.ntmps16
 go_wp2_with fail
 refine wp_scope_fwd 0 rfl ?_
 go_upto_region 1 with fail
 generalize w.alloc (.cells (arP ⟨fl,sq,ak,wi,d⟩ (.slice A d.length c)) 49)=wa at *
 obtain⟨y0,y1,y2,y3,y4⟩:=cells5 b0
 go_wp2_with fail
 refine (snone_si H.g H.gw _ (alk c16 _)).mono ?_
 rintro e w' ⟨rfl,rfl⟩
 have fb:Fr [] w (wa.alloc (.cells #[.nilFunc, .nilFunc, .nilFunc, .nilFunc, .nilFunc, .nilFunc] 105)):=f0.alloc _
 have bb:Blk (wa.alloc (.cells #[.nilFunc, .nilFunc, .nilFunc, .nilFunc, .nilFunc, .nilFunc] 105)) wa.heap.size 105 #[.nilFunc, .nilFunc, .nilFunc, .nilFunc, .nilFunc, .nilFunc]:=Blk.new wa _ _
 have b1:=b0.alloc (.cells #[.nilFunc, .nilFunc, .nilFunc, .nilFunc, .nilFunc, .nilFunc] 105)
 have hb6:w.heap.size<wa.heap.size:=b0.lt
 have c0:=alk c0 (.cells #[.nilFunc, .nilFunc, .nilFunc, .nilFunc, .nilFunc, .nilFunc] 105)
 generalize wa.alloc (.cells #[.nilFunc, .nilFunc, .nilFunc, .nilFunc, .nilFunc, .nilFunc] 105)=wb at *
 obtain⟨y0,y1,y2,y3,y4⟩:=cells5 b1
 generalize hbk:wa.heap.size=bk at *
 have FB:=hI fb
 have BB:=hI bb
 have B1:=hI b1
 clear fb b1 f0 b0 c16 hbk
 by_cases h0:fl<0
 ·have d0:decide (fl<0)=true:=by simpa using h0
  go_wp2_with fail
  apply wp_goto
  refine fwd_goto _ _ ?_
  go_wp2
  rw [Exit.noGoto_ret]
  go_ret2
  rw [VN.out (.inl h0)]
  exact⟨_,rfl,lpost_nil (M.out.fr FB.out) (FB.out.mono (by simp))⟩
 have d0:decide (fl<0)=false:=by simpa using h0
 by_cases h15:15<fl
 ·have d1:decide (15<fl)=true:=by simpa using h15
  have d1':decide (fl > 15)=true:=by simpa using h15
  go_wp2_with fail
  apply wp_goto
  refine fwd_goto _ _ ?_
  go_wp2
  rw [Exit.noGoto_ret]
  go_ret2
  rw [VN.out (.inr (.inl h15))]
  exact⟨_,rfl,lpost_nil (M.out.fr FB.out) (FB.out.mono (by simp))⟩
 have d1:decide (15<fl)=false:=by simpa using h15
 have d1':decide (fl > 15)=false:=by simpa using h15
 by_cases h64:64<d.length
 ·have d2:decide (64<(d.length:Int))=true:=by simp;omega
  have d2':decide ((d.length:Int) > 64)=true:=by simp;omega
  go_wp2_with fail
  apply wp_goto
  refine fwd_goto _ _ ?_
  go_wp2
  rw [Exit.noGoto_ret]
  go_ret2
  rw [VN.out (.inr (.inr h64))]
  exact⟨_,rfl,lpost_nil (M.out.fr FB.out) (FB.out.mono (by simp))⟩
 have d2:decide (64<(d.length:Int))=false:=by simp;omega
 have d2':decide ((d.length:Int) > 64)=false:=by simp;omega
 have hVY:=VY.out (by omega)
 have hHA:=fun W f=>HA.out W f (by omega) (by omega) (by omega)
 have hok2:=HOK2.out (by omega)
 clear VY HA VN HOK2
 have HVY:=hI hVY
 have HHA:=hI hHA
 have OK2:=hI hok2
 clear hVY hHA hok2
 have BBk:=hI bb
 clear bb
 go_upto_region 7 with ((with_reducible refine gate_store 105 (.tmp 6) ?_);refine wpList_store_blk rfl 105 (.tmp 6) (.tmp 33) rfl bk 105 #[.nilFunc, .nilFunc, .nilFunc, .nilFunc, .nilFunc, .nilFunc] (arF H.g) rfl rfl BBk.out rfl (by kernel_rfl) (by simp [Value.oneCell']) ?_;intro wc bc fc)
 have nbk:bk≠w.heap.size:=by omega
 have FC:Hid (Fr [] w wc):=hI (FB.out.trans fc (fun y hy => .inr (by simp at hy;omega)))
 have b2:=B1.out.fr fc (by simp;omega)
 obtain⟨y0,y1,y2,y3,y4⟩:=cells5 b2
 have c0:wc.cell? ⟨H.g,0,none⟩=some (.int .i64 x.at_):=(scells (M.out.fr FC.out).blk).c0
 have hat0:=OK.out.at0
 have hat5:=OK.out.at5
 have B2:=hI b2
 have BC:=hI bc
 clear b2 bc fc BBk FB B1
 obtain hat|hat|hat|hat|hat:x.at_=1∨x.at_=2∨x.at_=3∨x.at_=4∨x.at_=5:=by omega
 all_goals
  rw [hat] at c0
  rw [hat] at HHA
  clear hat hat0 hat5
 ·have k1:wc.cell? ⟨bk,1,none⟩=some (.func (.func 51) #[ptr H.g] #[]):=by simpa using BC.out.cell 1
  have hc:∀ W,Fr [] wc W→Calls Tryz.prog 51 #[ptr H.g,agP ⟨fl,sq,ak,wi,d⟩ (.slice A d.length c)] W (LPost S W H y):=fun W f=>HHA.out W (FC.out.trans f (by simp))
  have HC:=hI hc
  clear hc
  go_region_with (first
    | (go_at_call 51;refine (HC.out _ (Fr.refl [] wc).drew).mono ?_;rintro e w2 ⟨S2,H2,v2,L2,rfl,hL2,x2,lk2,m2,p2,n2,f2⟩;have hse:=sends_si m2 OK2.out.s p2 (fun b hb=>(n2 b hb).2) (by have h1:=HCL.out;rw [← hL2,List.length_map] at h1;omega);rw [lk2.g] at hse;have HSE:=hI hse;have X2:=hI x2;have LK2:=hI lk2;have N2:=hI n2;have F2:=hI f2;have HL2:=hI hL2;clear hse x2 lk2 m2 p2 n2 f2 hL2)
    | (go_at_call 56;refine HSE.out.mono ?_;rintro e w3 ⟨S3,v3,L3,rfl,hp3⟩;have HP3:Hid (LPost S w H ((sendsV y.1).1,y.2++(sendsV y.1).2) (.returned v3) w3):=hI (come_end FC.out HL2.out X2.out LK2.out N2.out F2.out ⟨S3,v3,L3,rfl,hp3⟩);clear hp3))
  all_goals
   go_wp2_with fail
   rw [fwd_ret]
   go_ret2
   rw [HVY.out]
   exact⟨_,rfl,HP3.out⟩
 ·have k1:wc.cell? ⟨bk,2,none⟩=some (.func (.func 52) #[ptr H.g] #[]):=by simpa using BC.out.cell 2
  have hc:∀ W,Fr [] wc W→Calls Tryz.prog 52 #[ptr H.g,agP ⟨fl,sq,ak,wi,d⟩ (.slice A d.length c)] W (LPost S W H y):=fun W f=>HHA.out W (FC.out.trans f (by simp))
  have HC:=hI hc
  clear hc
  go_region_with (first
    | (go_at_call 52;refine (HC.out _ (Fr.refl [] wc).drew).mono ?_;rintro e w2 ⟨S2,H2,v2,L2,rfl,hL2,x2,lk2,m2,p2,n2,f2⟩;have hse:=sends_si m2 OK2.out.s p2 (fun b hb=>(n2 b hb).2) (by have h1:=HCL.out;rw [← hL2,List.length_map] at h1;omega);rw [lk2.g] at hse;have HSE:=hI hse;have X2:=hI x2;have LK2:=hI lk2;have N2:=hI n2;have F2:=hI f2;have HL2:=hI hL2;clear hse x2 lk2 m2 p2 n2 f2 hL2)
    | (go_at_call 56;refine HSE.out.mono ?_;rintro e w3 ⟨S3,v3,L3,rfl,hp3⟩;have HP3:Hid (LPost S w H ((sendsV y.1).1,y.2++(sendsV y.1).2) (.returned v3) w3):=hI (come_end FC.out HL2.out X2.out LK2.out N2.out F2.out ⟨S3,v3,L3,rfl,hp3⟩);clear hp3))
  all_goals
   go_wp2_with fail
   rw [fwd_ret]
   go_ret2
   rw [HVY.out]
   exact⟨_,rfl,HP3.out⟩
 ·have k1:wc.cell? ⟨bk,3,none⟩=some (.func (.func 53) #[ptr H.g] #[]):=by simpa using BC.out.cell 3
  have hc:∀ W,Fr [] wc W→Calls Tryz.prog 53 #[ptr H.g,agP ⟨fl,sq,ak,wi,d⟩ (.slice A d.length c)] W (LPost S W H y):=fun W f=>HHA.out W (FC.out.trans f (by simp))
  have HC:=hI hc
  clear hc
  go_region_with (first
    | (go_at_call 53;refine (HC.out _ (Fr.refl [] wc).drew).mono ?_;rintro e w2 ⟨S2,H2,v2,L2,rfl,hL2,x2,lk2,m2,p2,n2,f2⟩;have hse:=sends_si m2 OK2.out.s p2 (fun b hb=>(n2 b hb).2) (by have h1:=HCL.out;rw [← hL2,List.length_map] at h1;omega);rw [lk2.g] at hse;have HSE:=hI hse;have X2:=hI x2;have LK2:=hI lk2;have N2:=hI n2;have F2:=hI f2;have HL2:=hI hL2;clear hse x2 lk2 m2 p2 n2 f2 hL2)
    | (go_at_call 56;refine HSE.out.mono ?_;rintro e w3 ⟨S3,v3,L3,rfl,hp3⟩;have HP3:Hid (LPost S w H ((sendsV y.1).1,y.2++(sendsV y.1).2) (.returned v3) w3):=hI (come_end FC.out HL2.out X2.out LK2.out N2.out F2.out ⟨S3,v3,L3,rfl,hp3⟩);clear hp3))
  all_goals
   go_wp2_with fail
   rw [fwd_ret]
   go_ret2
   rw [HVY.out]
   exact⟨_,rfl,HP3.out⟩
 ·have k1:wc.cell? ⟨bk,4,none⟩=some (.func (.func 54) #[ptr H.g] #[]):=by simpa using BC.out.cell 4
  have hc:∀ W,Fr [] wc W→Calls Tryz.prog 54 #[ptr H.g,agP ⟨fl,sq,ak,wi,d⟩ (.slice A d.length c)] W (LPost S W H y):=fun W f=>HHA.out W (FC.out.trans f (by simp))
  have HC:=hI hc
  clear hc
  go_region_with (first
    | (go_at_call 54;refine (HC.out _ (Fr.refl [] wc).drew).mono ?_;rintro e w2 ⟨S2,H2,v2,L2,rfl,hL2,x2,lk2,m2,p2,n2,f2⟩;have hse:=sends_si m2 OK2.out.s p2 (fun b hb=>(n2 b hb).2) (by have h1:=HCL.out;rw [← hL2,List.length_map] at h1;omega);rw [lk2.g] at hse;have HSE:=hI hse;have X2:=hI x2;have LK2:=hI lk2;have N2:=hI n2;have F2:=hI f2;have HL2:=hI hL2;clear hse x2 lk2 m2 p2 n2 f2 hL2)
    | (go_at_call 56;refine HSE.out.mono ?_;rintro e w3 ⟨S3,v3,L3,rfl,hp3⟩;have HP3:Hid (LPost S w H ((sendsV y.1).1,y.2++(sendsV y.1).2) (.returned v3) w3):=hI (come_end FC.out HL2.out X2.out LK2.out N2.out F2.out ⟨S3,v3,L3,rfl,hp3⟩);clear hp3))
  all_goals
   go_wp2_with fail
   rw [fwd_ret]
   go_ret2
   rw [HVY.out]
   exact⟨_,rfl,HP3.out⟩
 ·have k1:wc.cell? ⟨bk,5,none⟩=some (.func (.func 55) #[ptr H.g] #[]):=by simpa using BC.out.cell 5
  have hc:∀ W,Fr [] wc W→Calls Tryz.prog 55 #[ptr H.g,agP ⟨fl,sq,ak,wi,d⟩ (.slice A d.length c)] W (LPost S W H y):=fun W f=>HHA.out W (FC.out.trans f (by simp))
  have HC:=hI hc
  clear hc
  go_region_with (first
    | (go_at_call 55;refine (HC.out _ (Fr.refl [] wc).drew).mono ?_;rintro e w2 ⟨S2,H2,v2,L2,rfl,hL2,x2,lk2,m2,p2,n2,f2⟩;have hse:=sends_si m2 OK2.out.s p2 (fun b hb=>(n2 b hb).2) (by have h1:=HCL.out;rw [← hL2,List.length_map] at h1;omega);rw [lk2.g] at hse;have HSE:=hI hse;have X2:=hI x2;have LK2:=hI lk2;have N2:=hI n2;have F2:=hI f2;have HL2:=hI hL2;clear hse x2 lk2 m2 p2 n2 f2 hL2)
    | (go_at_call 56;refine HSE.out.mono ?_;rintro e w3 ⟨S3,v3,L3,rfl,hp3⟩;have HP3:Hid (LPost S w H ((sendsV y.1).1,y.2++(sendsV y.1).2) (.returned v3) w3):=hI (come_end FC.out HL2.out X2.out LK2.out N2.out F2.out ⟨S3,v3,L3,rfl,hp3⟩);clear hp3))
  all_goals
   go_wp2_with fail
   rw [fwd_ret]
   go_ret2
   rw [HVY.out]
   exact⟨_,rfl,HP3.out⟩
theorem over_si{S:Nat→Prop}{w:World}{H:Hd}{x:St}(m:SI S w H x):Calls Tryz.prog 57 #[ptr H.g] w fun e w'=>e = .returned (.bool (overV x))∧Fr [] w w':=by
 have c:=scells m.blk
 have c0:=c.c0
 have c11:=c.c11
 have hv:overV x=(x.at_ == 5 || x.closing):=rfl
 generalize overV x=r at *
 clear c m
 by_cases h:x.at_=5
 ·obtain rfl:r=true:=by rw [hv];simp [h]
  rw [h] at c0
  clear hv
  go_enter Tryz.func57,Tryz.ntmps57
  go_wp2_with fail
  go_ret
  first|exact⟨rfl,Fr.refl _ _⟩|exact⟨rfl,(Fr.refl _ _).drew⟩
 ·have h1:decide (x.at_=5)=false:=by simpa using h
  have h2:(x.at_ == 5)=false:=by simpa using h
  obtain rfl:r=x.closing:=by rw [hv,h2];rfl
  clear hv
  go_enter Tryz.func57,Tryz.ntmps57
  go_wp2_with fail
  go_ret
  first|exact⟨rfl,Fr.refl _ _⟩|exact⟨rfl,(Fr.refl _ _).drew⟩
theorem c_nil{S:Nat→Prop}{w w':World}{H:Hd}{x:St}{n:Int}(m:SI S w' H x)(f:Fr H.own w w'):CPost S w H (x,[],n) (.returned (.tuple #[.slice none 0 0, .int .i64 n])) w':=⟨_,rfl,lpost_nil m f⟩
theorem c_sends{S:Nat→Prop}{w w1 w2:World}{H H1:Hd}{y:St}{R:St × List Prt}{v:Value}{n:Int}(lk:Hd.like w H H1)(f1:Fr H.own w w1)(h:SPost S w1 H1 (.slice none 0 0) [] R (.returned v) w2):CPost S w H (R.1,R.2,n) (.returned (.tuple #[v, .int .i64 n])) w2:=by
 have:=sends_post (r:=(y,[])) (R:=R) rfl (Ext.refl w S) lk (by simp [ob,Value.ownBlock]) f1 h
 rw [List.nil_append] at this
 exact⟨_,rfl,this⟩
section
variable {S:Nat→Prop} {w w':World} {H:Hd} {x:St}
theorem SI.setb(m:SI S w H x){b:List Int}{bv':Value}(ha:0≤x.win.a)(hm:x.win.a≤x.all.length)(own:w'.ownsRow 0 5 1 bv' (bufV x++b).length (byts (bufV x++b)))(f:Fr (ob H.bv) w w')(n:∀ y,bv'.ownBlock=some y→H.bv.ownBlock=some y∨(w.heap.size≤y∧y<w'.heap.size))(z:Int)(hz:z=(x.all++b).length) :
  SI S ((w'.setCell ⟨H.g,14,none⟩ bv').setCell ⟨H.g,7,none⟩ (.int .i64 z)) ⟨H.g,H.gw,H.gc,H.gh,bv',H.uv,H.kv⟩ { x with all:=x.all++b }∧Hd.like w H ⟨H.g,H.gw,H.gc,H.gh,bv',H.uv,H.kv⟩∧Fr H.own w ((w'.setCell ⟨H.g,14,none⟩ bv').setCell ⟨H.g,7,none⟩ (.int .i64 z)):=by
 subst hz
 have hO:∀ y∈ob H.bv,¬ S y:=fun y hy=>m.nS y (.inr (.inr (.inr (.inl hy))))
 have ng:H.g∉ob H.bv:=fun hm=>m.ne_b _ hm rfl
 have hb:∀ {b:Nat} {t:TypeId} {cs:Array Value},Blk w b t cs→5≠t→b∉ob H.bv:=fun B h1 hm=>own_ne m.buf B h1 (mem_ob.1 hm)
 have hk:∀ y∈H.gh::ob H.kv,y∉ob H.bv:=fun y hy hm=>by
  obtain⟨ev,L,n⟩:=m.hp
  rcases List.mem_cons.1 hy with rfl|h
  ·exact own_ne m.buf n.blk (by decide) (mem_ob.1 hm)
  ·exact own_ne2 m.buf n.kp.own (by decide) (mem_ob.1 hm) (mem_ob.1 h)
 have hp1:=m.hp.ext' f (Ext.refl w S) hO hk (fun b hb=>Nat.lt_of_lt_of_le (HP.pub' m.hp b hb) f.size)
 have B1:=m.blk.fr f ng
 have f3:Fr [H.g] w' ((w'.setCell ⟨H.g,14,none⟩ bv').setCell ⟨H.g,7,none⟩ (.int .i64 (x.all++b).length)):=((Fr.refl [H.g] w').setCell (p:=⟨H.g,14,none⟩) (.inl (by simp)) _).setCell (p:=⟨H.g,7,none⟩) (.inl (by simp)) _
 have hO3:∀ y∈[H.g],¬ S y:=fun y hy=>by simp at hy;subst hy;exact m.nS _ (.inl rfl)
 have hbu:bufV { x with all:=x.all++b }=bufV x++b:=by
  unfold bufV
  rw [List.drop_append_of_le_length (by show x.win.a.toNat≤_;omega)]
 refine⟨⟨(B1.set_ 14 bv').set_ 7 (.int .i64 (x.all++b).length),Blk.fr (Blk.fr m.win f (hb m.win (by decide))) f3 (by simpa using m.ne_w),Blk.fr (Blk.fr m.clk f (hb m.clk (by decide))) f3 (by simpa using m.ne_c),hp1.ext' f3 (Ext.refl w' S) hO3 (fun y hy=>by simpa using m.ne_h y hy) (fun b hb=>Nat.lt_of_lt_of_le (HP.pub' hp1 b hb) f3.size),
  by rw [hbu];exact own_fr own f3 (fun b hb=>by simp;rintro rfl;exact own_ne own B1 (by decide) hb),own_fr (own_fr m.unr f (fun b hb hm=>m.bu b hm (mem_ob.2 hb))) f3 (fun b hb=>by simpa using m.ne_u b (mem_ob.2 hb)),fun y hy=>?_,fun y hy hu=>?_⟩,⟨rfl,rfl,rfl,rfl,fun b hb=>?_⟩,?_⟩
 ·rcases hy with h|h|h|h|h
  ·exact m.nS y (.inl h)
  ·exact m.nS y (.inr (.inl h))
  ·exact m.nS y (.inr (.inr (.inl h)))
  ·rcases n y (mem_ob.1 h) with h1|h1
   ·exact hO y (mem_ob.2 h1)
   ·intro hs;have:=HP.pub' m.hp y hs;omega
  ·exact m.nS y (.inr (.inr (.inr (.inr h))))
 ·rcases n y (mem_ob.1 hy) with h1|h1
  ·exact m.bu y (mem_ob.2 h1) hu
  ·have:=own_lt m.unr (mem_ob.1 hu);omega
 ·simp only [Hd.own,List.mem_cons,List.mem_append] at hb ⊢
  rcases hb with h|h|h|h|h|h|h
  ·exact .inl (.inl h)
  ·exact .inl (.inr (.inl h))
  ·exact .inl (.inr (.inr (.inl h)))
  ·exact .inl (.inr (.inr (.inr (.inl h))))
  ·exact .inl (.inr (.inr (.inr (.inr (.inl h)))))
  ·rcases n b (mem_ob.1 h) with h1|h1
   ·exact .inl (.inr (.inr (.inr (.inr (.inr (.inl (mem_ob.2 h1)))))))
   ·exact .inr h1.1
  ·exact .inl (.inr (.inr (.inr (.inr (.inr (.inr h))))))
 ·exact (f.mono (fun y hy=>by simp only [Hd.own,List.mem_cons,List.mem_append];exact .inr (.inr (.inr (.inr (.inr (.inl hy))))))).trans (f3.mono (O':=H.own) (by simp [Hd.own])) (fun y hy => .inl hy)
end
theorem writeV_over(x:St)(b:List Int)(h:overV x=true):writeV x b=(x,[],260):=by unfold writeV;rw [if_pos h]
theorem writeV_long(x:St)(b:List Int)(h:overV x=false)(h2:4096 - (x.all.length - x.win.a)<(b.length:Int)):writeV x b=(x,[],3):=by unfold writeV;rw [if_neg (by simp [h]),if_pos h2]
theorem writeV_go(x:St)(b:List Int)(h:overV x=false)(h2:¬ 4096 - (x.all.length - x.win.a)<(b.length:Int)):writeV x b=((sendsV { x with all:=x.all++b }).1,(sendsV { x with all:=x.all++b }).2,0):=by unfold writeV;rw [if_neg (by simp [h]),if_neg h2]
set_option maxHeartbeats 4000000 in
theorem write_si{S:Nat→Prop}{w:World}{H:Hd}{x:St}(m:SI S w H x)(ok:OkS x)(b:List Int)(hal:x.all.length≤990000)(A:Option Addr)(c:Nat)(T:Nat→Prop)(hd:Byt T w (.slice A b.length c) b) :
  Calls Tryz.prog 17 #[ptr H.g, .slice A b.length c] w (CPost S w H (writeV x b)):=by
 have vo:=writeV_over x b
 have vl:=writeV_long x b
 have vg:=writeV_go x b
 have c16:=(scells m.blk).c16
 have hov:=over_si m
 obtain⟨bA,bc,hbv,hbq,_⟩:=own_form m.buf
 have hbl0:((bufV x).length:Int)=x.all.length - x.win.a:=by unfold bufV;rw [List.length_drop];have:=Win.Inv.bd ok.hw;have:=ok.hm;omega
 generalize hbl:(bufV x).length=bl at *
 have HBL:=hI hbl0
 have HBQ:=hI hbl
 clear hbl0 hbl
 have hcap:b.length≤maxLen:=by obtain⟨_,_,_,h1,h2⟩:=hd.form;omega
 unfold maxLen at hcap
 generalize writeV x b=r at *
 have M:=hI m
 have OK:=hI ok
 have HO:=hI hov
 have VO:=hI vo
 have VL:=hI vl
 have VG:=hI vg
 have HD:=hI hd
 clear m ok hov vo vg vl hd
 go_enter Tryz.func17,Tryz.ntmps17
 go_wp2_with fail
 refine (snone_si H.g H.gw w c16).mono ?_
 rintro e w' ⟨rfl,rfl⟩
 go_wp2_with fail
 refine HO.out.mono ?_
 rintro e w1 ⟨rfl,f1⟩
 generalize hov:overV x=o at *
 have F1:=hI f1
 have m1:=M.out.fr f1
 have c14:=(scells m1.blk).c14
 have c7:=(scells m1.blk).c7
 rw [hbv] at c14
 have z14:=m1.blk.frozen 14
 have z7:=m1.blk.frozen 7
 have hlt:=m1.blk.lt
 have M1:=hI m1
 have HBV:=hI hbv
 clear m1 f1 c16 hbv
 rcases Bool.eq_false_or_eq_true o with rfl|rfl
 ·go_wp2_with fail
  go_ret2
  rw [VO.out (by trivial)]
  exact c_nil M1.out (F1.out.mono (by simp))
 ·have hwr:IntKind.i64.wrap (4096 - (bl:Int))=4096 - (bl:Int):=IntWalk.i64_in _ (by have:=HBL.out;have:=OK.out.hl;have:=Win.Inv.bd OK.out.hw;omega)
  by_cases hlo:4096 - (bl:Int)<(b.length:Int)
  ·have hd0:decide (4096 - (bl:Int)<(b.length:Int))=true:=by simpa using hlo
   have hd1:decide ((b.length:Int) > 4096 - (bl:Int))=true:=by simpa using hlo
   go_wp2_with fail
   go_ret2
   rw [VL.out (by trivial) (by have:=HBL.out;omega)]
   exact c_nil M1.out (F1.out.mono (by simp))
  ·have hd0:decide (4096 - (bl:Int)<(b.length:Int))=false:=by simpa using hlo
   have hd1:decide ((b.length:Int) > 4096 - (bl:Int))=false:=by simpa using hlo
   have hw7:IntKind.i64.wrap ((x.all.length:Int)+(b.length:Int))=((x.all.length:Int)+(b.length:Int)):=IntWalk.i64_in _ (by omega)
   obtain⟨i0,hi0,hz0,hz1,hz2⟩:=info_parts info_u8
   have HOwn:Hid (w1.ownsRow 0 5 1 (.slice bA bl bc) bl (byts (bufV x))):=hI (by rw [← HBV.out,← HBQ.out];exact M1.out.buf)
   have HLM:Hid (bl+b.length≤maxLen):=hI (by unfold maxLen;have:=HBL.out;have:=Win.Inv.bd OK.out.hw;omega)
   have HLB:Hid ((bl+b.length) * 1≤140737488355328):=hI (by have:=HBL.out;have:=Win.Inv.bd OK.out.hw;omega)
   go_upto_region 8 with (at_builtin;refine wpList_append_sl _ rfl (.tmp 26) (.tmp 27) 30 rfl 5 i0 (.int .u8 0) 1 1 Tryz.underlying30 hi0 hz0 hz1 hz2 rfl (by decide) (.slice bA bl bc) bl (byts (bufV x)) (by rfl) HOwn.out T (.slice A b.length c) b.length (byts b) (by rfl) (HD.out.fr F1.out (by simp)) (byts_one _) HLM.out HLB.out (bl+b.length) rfl ?_;intro A7 c7' W7 h10 h11 h12;have B7:=M1.out.blk.fr h11 (by rw [← HBV.out];exact fun hm=>M1.out.ne_b _ hm rfl);have z14':=B7.frozen 14;have z7':=B7.frozen 7;have c14':=(scells B7).c14;have c7:=(scells B7).c7;have hlt':=B7.lt;have H10:=hI h10;have H11:=hI h11;have H12:=hI h12;clear h10 h11 h12 B7)
   go_upto_region 9 with fail
   have hown:W7.ownsRow 0 5 1 (.slice A7 (bl+b.length) c7') (bufV x++b).length (byts (bufV x++b)):=by
    have h:=H10.out
    rw [byts_app] at h
    rwa [List.length_append,HBQ.out]
   have hset:=M1.out.setb (b:=b) (bv' := .slice A7 (bl+b.length) c7') (by have:=Win.Inv.bd OK.out.hw;omega) (by have:=Win.Inv.bd OK.out.hw;have:=OK.out.hm;omega) hown (by rw [HBV.out];exact H11.out) (by rw [HBV.out];exact H12.out) ((x.all.length:Int)+b.length) (by simp)
   generalize ((W7.setCell ⟨H.g,14,none⟩ (.slice A7 (bl+b.length) c7')).setCell ⟨H.g,7,none⟩ (.int .i64 ((x.all.length:Int)+b.length)))=w8 at *
   obtain⟨m8,lk8,f8⟩:=hset
   have hse:=sends_si m8 (⟨OK.out.hi,OK.out.hu,OK.out.hw,OK.out.hc,by have:=OK.out.hm;simp;omega,by have:=Win.Inv.bd OK.out.hw;have:=HBL.out;simp;omega,OK.out.n0,OK.out.n1,OK.out.s0,OK.out.s1⟩:OkS { x with all:=x.all++b }) Pr.nil (by simp [ob,Value.ownBlock]) (by simp)
   dsimp only at hse
   have HSE:=hI hse
   have LK8:Hid (Hd.like w H ⟨H.g,H.gw,H.gc,H.gh, .slice A7 (bl+b.length) c7',H.uv,H.kv⟩):=hI (Hd.like.trans (Hd.like.rfl' w H) F1.out.size lk8)
   have F8:Hid (Fr H.own w w8):=hI ((F1.out.mono (by simp)).trans f8 (fun y hy => .inl hy))
   clear hse m8 lk8 f8 hown c14 c14' z14 z7 z14' z7' c7
   go_wp2_with fail
   refine HSE.out.mono ?_
   rintro e w9 ⟨S3,v3,L3,rfl,hp3⟩
   have hc:=c_sends (n:=0) (y:=x) LK8.out F8.out (⟨S3,v3,L3,rfl,hp3⟩:SPost S w8 _ (.slice none 0 0) [] (sendsV { x with all:=x.all++b }) (.returned v3) w9)
   have HC:=hI hc
   clear hp3 hc
   go_wp2_with fail
   go_ret2
   rw [VG.out (by trivial) (by have:=HBL.out;omega)]
   exact HC.out
def ReadPost(S:Nat→Prop)(w:World)(H:Hd)(r:St × List Int × List Prt)(e:Ending)(w':World):Prop:=
 ∃ S' H' v L,e = .returned (.tuple #[H.uv,v])∧L.map (·.1)=r.2.2∧Ext w S S'∧Hd.like w H H'∧SI S' w' H' r.1∧Pr S' w' v L∧(∀ b∈ob v,w.heap.size≤b∧¬ S' b)∧Fr [H.g] w w'∧Byt (fun b=>b∈ob H.uv) w' H.uv r.2.1∧(∀ b∈ob H.uv,b∉H'.own)
theorem SI.told{S:Nat→Prop}{w:World}{H:Hd}{x:St}(m:SI S w H x) :
  SI S (w.setCell ⟨H.g,15,none⟩ (.slice none 0 0)) ⟨H.g,H.gw,H.gc,H.gh,H.bv, .slice none 0 0,H.kv⟩ { x with unread:=[] }∧Hd.like w H ⟨H.g,H.gw,H.gc,H.gh,H.bv, .slice none 0 0,H.kv⟩∧Fr [H.g] w (w.setCell ⟨H.g,15,none⟩ (.slice none 0 0)) ∧
  (∀ b∈ob H.uv,b∉(⟨H.g,H.gw,H.gc,H.gh,H.bv, .slice none 0 0,H.kv⟩:Hd).own):=by
 have f3:Fr [H.g] w (w.setCell ⟨H.g,15,none⟩ (.slice none 0 0)):=(Fr.refl [H.g] w).setCell (p:=⟨H.g,15,none⟩) (.inl (by simp)) _
 have hO3:∀ y∈[H.g],¬ S y:=fun y hy=>by simp at hy;subst hy;exact m.nS _ (.inl rfl)
 have h0:∀ y,y∉ob (.slice none 0 0):=by simp [ob,Value.ownBlock]
 refine⟨⟨m.blk.set_ 15 (.slice none 0 0),Blk.fr m.win f3 (by simpa using m.ne_w),Blk.fr m.clk f3 (by simpa using m.ne_c),m.hp.ext' f3 (Ext.refl w S) hO3 (fun y hy=>by simpa using m.ne_h y hy) (fun b hb=>Nat.lt_of_lt_of_le (HP.pub' m.hp b hb) f3.size),
  own_fr m.buf f3 (fun b hb=>by simpa using m.ne_b b (mem_ob.2 hb)),World.ownsRow_nil _ 0 5 1,fun y hy=>?_,fun y hy hu=>h0 y hu⟩,⟨rfl,rfl,rfl,rfl,fun b hb=>?_⟩,f3,fun b hb hm=>?_⟩
 ·rcases hy with h|h|h|h|h
  ·exact m.nS y (.inl h)
  ·exact m.nS y (.inr (.inl h))
  ·exact m.nS y (.inr (.inr (.inl h)))
  ·exact m.nS y (.inr (.inr (.inr (.inl h))))
  ·exact absurd h (h0 y)
 ·simp only [Hd.own,List.mem_cons,List.mem_append] at hb ⊢
  rcases hb with h|h|h|h|h|h|h
  ·exact .inl (.inl h)
  ·exact .inl (.inr (.inl h))
  ·exact .inl (.inr (.inr (.inl h)))
  ·exact .inl (.inr (.inr (.inr (.inl h))))
  ·exact .inl (.inr (.inr (.inr (.inr (.inl h)))))
  ·exact .inl (.inr (.inr (.inr (.inr (.inr (.inl h))))))
  ·exact absurd h (h0 b)
 ·have hu:=mem_ob.1 hb
  simp only [Hd.own,List.mem_cons,List.mem_append] at hm
  obtain⟨ev,L,n⟩:=m.hp
  rcases hm with h|h|h|h|h|h|h
  ·exact m.ne_u b hb h
  ·subst h;exact own_ne m.unr m.win (by decide) hu
  ·subst h;exact own_ne m.unr m.clk (by decide) hu
  ·subst h;exact own_ne m.unr n.blk (by decide) hu
  ·exact own_ne2 m.unr n.kp.own (by decide) hu (mem_ob.1 h)
  ·exact m.bu b h hb
  ·exact h0 b h
theorem readV_yes(x:St)(h:x.shown=0∧x.at_=4∧0<roomV { x with unread:=[] }):readV x=(shows { x with unread:=[] },x.unread,[answerV { x with unread:=[] }]):=by unfold readV;dsimp only;rw [if_pos h]
theorem readV_no(x:St)(h:¬ (x.shown=0∧x.at_=4∧0<roomV { x with unread:=[] })):readV x=({ x with unread:=[] },x.unread,[]):=by unfold readV;dsimp only;rw [if_neg h]
theorem read_no{S:Nat→Prop}{w w2 w3:World}{H H2:Hd}{x:St}(m:SI S w H x)(m2:SI S w2 H2 { x with unread:=[] })(lk:Hd.like w H H2)(f:Fr [H.g] w w2)(n:∀ b∈ob H.uv,b∉H2.own)(f3:Fr [] w2 w3) :
  ReadPost S w H ({ x with unread:=[] },x.unread,[]) (.returned (.tuple #[H.uv, .slice none 0 0])) w3:=
 ⟨S,H2,_,[],rfl,rfl,Ext.refl w S,lk,m2.fr f3,Pr.nil,by simp [ob,Value.ownBlock],f.trans f3 (by simp),(Byt.fr (Sl.of_own m.unr (fun b hb=>mem_ob.2 hb)) f (fun y hy hm=>by simp at hy;subst hy;exact m.ne_u _ hm rfl)).fr f3 (by simp),n⟩
theorem read_yes{S S4:Nat→Prop}{w w2 w3 w4:World}{H H2:Hd}{x:St}{A4:Option Addr}{c4:Nat}(m:SI S w H x)(lk:Hd.like w H H2)(f:Fr [H.g] w w2)(n:∀ b∈ob H.uv,b∉H2.own)(f3:Fr [] w2 w3)(x4:Ext w3 S S4)
  (by4:Byt S4 w4 (.slice A4 (answerV { x with unread:=[] }).d.length c4) (answerV { x with unread:=[] }).d) (m4:SI S4 w4 H2 (shows { x with unread:=[] })) (f4:Fr [H2.g] w3 w4) :
  ReadPost S w H (shows { x with unread:=[] },x.unread,[answerV { x with unread:=[] }]) (.returned (.tuple #[H.uv, .slice (some ⟨w4.heap.size,0,none⟩) 1 1])) (w4.alloc (.cells #[.int .i64 (answerV { x with unread:=[] }).flags, .int .u32 (answerV { x with unread:=[] }).seq, .int .u32 (answerV { x with unread:=[] }).ack, .int .u16 (answerV { x with unread:=[] }).win, .slice A4 (answerV { x with unread:=[] }).d.length c4] 49)):=by
 have hz:w.heap.size≤w3.heap.size:=Nat.le_trans f.size f3.size
 have hz4:=f4.size
 rw [lk.g] at f4
 have ff:Fr [H.g] w (w4.alloc (.cells #[.int .i64 (answerV { x with unread:=[] }).flags, .int .u32 (answerV { x with unread:=[] }).seq, .int .u32 (answerV { x with unread:=[] }).ack, .int .u16 (answerV { x with unread:=[] }).win, .slice A4 (answerV { x with unread:=[] }).d.length c4] 49)):=((f.trans f3 (by simp)).trans f4 (fun y hy => .inl hy)).alloc _
 have hp:∀ b,S4 b→b<w4.heap.size:=HP.pub' m4.hp
 refine⟨S4,H2,_,[(answerV { x with unread:=[] }, .slice A4 _ c4)],rfl,rfl,ext_up x4 hz,lk,m4.fr ((Fr.refl [] w4).alloc _),pr_one by4,?_,ff,Byt.fr (Sl.of_own m.unr (fun b hb=>mem_ob.2 hb)) ff (fun y hy hm=>by simp at hy;subst hy;exact m.ne_u _ hm rfl),n⟩
 intro b hb
 simp [ob,Value.ownBlock] at hb
 subst hb
 exact⟨by omega,fun hs=>by have:=hp _ hs;omega⟩
set_option maxHeartbeats 4000000 in
theorem read_si{S:Nat→Prop}{w:World}{H:Hd}{x:St}(m:SI S w H x)(ok:OkS x):Calls Tryz.prog 18 #[ptr H.g] w (ReadPost S w H (readV x)):=by
 have vy:=readV_yes x
 have vn:=readV_no x
 obtain⟨uA,uc,huv,_,_⟩:=own_form m.unr
 have cs:=scells m.blk
 have c16:=cs.c16
 have c15:=cs.c15
 have c24:=cs.c24
 have c0:=cs.c0
 have z15:=m.blk.frozen 15
 have hlt:=m.blk.lt
 rw [huv] at c15
 generalize readV x=r at *
 have M:=hI m
 have OK:=hI ok
 have VY:=hI vy
 have VN:=hI vn
 have HUV:=hI huv
 have hset:=m.told
 have HN:=hI hset.2.2.2
 clear m ok vy vn huv cs
 go_enter Tryz.func18,Tryz.ntmps18
 go_wp2_with fail
 refine (snone_si H.g H.gw w c16).mono ?_
 rintro e w' ⟨rfl,rfl⟩
 go_upto_region 5 with fail
 generalize w.setCell ⟨H.g,15,none⟩ (.slice none 0 0)=w2 at *
 obtain⟨m2,lk2,f2,n2⟩:=hset
 have ok2:OkS { x with unread:=[] }:=⟨OK.out.hi,by simp,OK.out.hw,OK.out.hc,OK.out.hm,OK.out.hl,OK.out.n0,OK.out.n1,OK.out.s0,OK.out.s1⟩
 have hroom:=room_si m2 OK.out.hi (by simp)
 have hans:=answer_si m2 OK.out.hi (by simp) (by have:=Win.Inv.bd OK.out.hw;show 0≤x.win.m;omega) (by have:=OK.out.hm;have:=OK.out.hl;show x.win.m≤_;omega)
 have c24:w2.cell? ⟨H.g,24,none⟩=some (.int .i64 x.shown):=(scells m2.blk).c24
 have c0:w2.cell? ⟨H.g,0,none⟩=some (.int .i64 x.at_):=(scells m2.blk).c0
 have hlt2:=m2.blk.lt
 dsimp only at hroom hans
 have M2:=hI m2
 have LK2:=hI lk2
 have F2:=hI f2
 have HR:=hI hroom
 have HANS:=hI hans
 generalize hrv:roomV { x with unread:=[] }=rv at *
 clear m2 lk2 f2 n2 hroom hans c15 c16 z15
 have HRV:=hI hrv
 clear hrv
 by_cases h24:x.shown=0
 ·rw [h24] at c24
  by_cases h4:x.at_=4
  ·rw [h4] at c0
   go_wp2_with fail
   refine HR.out.mono ?_
   rintro e w3 ⟨rfl,f3⟩
   by_cases hrp:0<rv
   ·have hd0:decide (0<rv)=true:=by simpa using hrp
    have hd1:decide (rv > 0)=true:=by simpa using hrp
    have HANS2:=hI (answer_si (M2.out.fr f3) OK.out.hi (by simp) (by have:=Win.Inv.bd OK.out.hw;show 0≤x.win.m;omega) (by have:=OK.out.hm;have:=OK.out.hl;show x.win.m≤_;omega))
    have F3:=hI f3
    clear f3 c0 c24
    go_wp2_with fail
    refine HANS2.out.mono ?_
    rintro e w4 ⟨S4,A4,c4,rfl,x4,by4,m4,f4⟩
    have hrd:=read_yes M.out LK2.out F2.out HN.out F3.out x4 by4 m4 f4
    have HRD:=hI hrd
    clear x4 by4 m4 f4 hrd
    go_wp2_with fail
    go_ret2
    rw [VY.out ⟨h24,h4,hrp⟩,← HUV.out]
    exact HRD.out
   ·have hd0:decide (0<rv)=false:=by simpa using hrp
    have hd1:decide (rv > 0)=false:=by simpa using hrp
    go_wp2_with fail
    go_ret2
    rw [VN.out (fun h=>by have:=h.2.2;omega),← HUV.out]
    exact read_no M.out M2.out LK2.out F2.out HN.out f3
  ·have hd0:decide (x.at_=4)=false:=by simpa using h4
   have hd1:(x.at_ == 4)=false:=by simpa using h4
   go_wp2_with fail
   go_ret2
   rw [VN.out (fun h=>h4 h.2.1),← HUV.out]
   exact read_no M.out M2.out LK2.out F2.out HN.out (Fr.refl _ _)
 ·have hd0:decide (x.shown=0)=false:=by simpa using h24
  have hd1:(x.shown == 0)=false:=by simpa using h24
  go_wp2_with fail
  go_ret2
  rw [VN.out (fun h=>h24 h.1),← HUV.out]
  exact read_no M.out M2.out LK2.out F2.out HN.out (Fr.refl _ _)
abbrev zeroA:Array Value:=#[.int .i64 0, .bool false, .int .u32 0, .int .i64 0, .int .i64 0, .int .i64 0, .int .i64 0, .int .i64 0, .int .i64 0, .int .i64 0, .int .i64 0, .bool false, .bool false,
 .int .u32 0, .slice none 0 0, .slice none 0 0, .pointer none, .pointer none, .pointer none, .bool false, .bool false, .int .i64 0, .int .i64 0, .int .i64 0, .int .i64 0]
def Sz(w:World)(g:Nat):Prop:=Blk w g 74 zeroA
theorem Sz.c16{w:World}{g:Nat}(m:Sz w g):w.cell? ⟨g,16,none⟩=some (.pointer none):=by simpa using Blk.cell m 16
abbrev formZ:Array Value:=#[.int .i64 0, .bool false, .int .u32 0, .int .i64 0, .int .i64 0, .int .i64 0, .int .i64 0, .int .i64 0, .int .i64 0, .int .i64 0, .int .i64 0, .bool false, .bool false]
abbrev arN(isn:Int)(a b c:Value)(n:Int):Array Value:=#[.int .i64 n, .bool false, .int .u32 0, .int .i64 0, .int .i64 0, .int .i64 0, .int .i64 0, .int .i64 0, .int .i64 0, .int .i64 0, .int .i64 0, .bool false, .bool false, .int .u32 isn, .slice none 0 0, .slice none 0 0,a,b,c, .bool false, .bool false, .int .i64 0, .int .i64 0, .int .i64 0, .int .i64 0]
def NewPost(S:Nat→Prop)(w:World)(r:St × List Prt)(e:Ending)(w':World):Prop:=
 ∃ S' H v L,e = .returned (.tuple #[ptr H.g,v])∧L.map (·.1)=r.2∧Ext w S S'∧SI S' w' H r.1∧Pr S' w' v L∧(∀ b∈ob v,w.heap.size≤b∧¬ S' b)∧Fr [] w w'∧(∀ b∈H.own,w.heap.size≤b)
set_option maxHeartbeats 4000000 in
theorem new_si(S:Nat→Prop)(isn:Int)(calls:Bool)(w:World)(hp:∀ b,S b→b<w.heap.size):Calls Tryz.prog 8 #[.int .u32 isn, .bool calls] w (NewPost S w (newSV isn calls)):=by
 have HPu:=hI hp
 clear hp
 go_enter Tryz.func8,Tryz.ntmps8
 go_wp2_with fail
 refine (Win.new_win w).mono ?_
 rintro e w1 ⟨rfl,f1,m1,z1⟩
 go_upto_region 2 with fail
 have hgw:w.heap.size<w1.heap.size:=z1
 have f2:Fr [] w1 (w1.alloc (.cells (arN isn (ptr w.heap.size) (.pointer none) (.pointer none) 0) 74)):=(Fr.refl [] w1).alloc _
 have b2:Blk (w1.alloc (.cells (arN isn (ptr w.heap.size) (.pointer none) (.pointer none) 0) 74)) w1.heap.size 74 (arN isn (ptr w.heap.size) (.pointer none) (.pointer none) 0):=Blk.new w1 _ _
 have hz2:w1.heap.size<(w1.alloc (.cells (arN isn (ptr w.heap.size) (.pointer none) (.pointer none) 0) 74)).heap.size:=by simp
 have W2:=hI (Blk.fr m1 f2 (by simp))
 have F2:=hI (f1.trans f2 (by simp))
 have B2:=hI b2
 clear m1 f1 f2 b2 z1
 generalize w1.alloc (.cells (arN isn (ptr w.heap.size) (.pointer none) (.pointer none) 0) 74)=w2 at *
 generalize hg:w1.heap.size=g at *
 clear hg
 go_wp2_with fail
 refine (Rto.new_clk 2 1 32 8 w2 (by omega) (by omega) (by omega) (by omega) (by omega) (by omega)).mono ?_
 rintro e w3 ⟨gc,rfl,hgc,f3,C3,_⟩
 have b3:=B2.out.fr f3 (by simp)
 have z17:w3.frozen? ⟨g,17,none⟩=false:=b3.frozen 17
 have d17:w3.cell? ⟨g,17,none⟩=some (.pointer none):=by simpa using b3.cell 17
 have hl3:=b3.lt
 have B3:=hI b3
 have CC3:=hI C3
 have F3:=hI f3
 clear b3 C3 f3
 go_upto_region 3 with fail
 have f4:Fr [g] w3 (w3.setCell ⟨g,17,none⟩ (ptr gc)):=(Fr.refl [g] w3).setCell (p:=⟨g,17,none⟩) (.inl (by simp)) _
 have b4:Blk (w3.setCell ⟨g,17,none⟩ (ptr gc)) g 74 (arN isn (ptr w.heap.size) (ptr gc) (.pointer none) 0):=by simpa using B3.out.set_ 17 (ptr gc)
 generalize w3.setCell ⟨g,17,none⟩ (ptr gc)=w4 at *
 have F4:=hI f4
 have B4:=hI b4
 clear f4 b4 z17 d17 hl3
 have F24:Hid (Fr [g] w2 w4):=hI ((F3.out.mono (by simp)).trans F4.out (fun y hy => .inl hy))
 have FW4:Hid (Fr [] w w4):=hI (F2.out.trans F24.out (fun y hy => .inr (by simp at hy;omega)))
 have W4:Hid (Win.Win w4 w.heap.size ⟨0,0,0,0⟩ true):=hI (Blk.fr W2.out F24.out (by simp;omega))
 have C4:Hid (Rto.Clk w4 gc (Rto.newV 2 1 32 8)):=hI (Blk.fr CC3.out F4.out (by simp;omega))
 go_wp2_with fail
 refine (new_hp S 8 w4 (by omega) (by omega) (fun b hb=>by have:=HPu.out b hb;have:=FW4.out.size;omega)).mono ?_
 rintro e w5 ⟨rfl,f5,h5,z5⟩
 have b5:=B4.out.fr f5 (by simp)
 have z18:w5.frozen? ⟨g,18,none⟩=false:=b5.frozen 18
 have d18:w5.cell? ⟨g,18,none⟩=some (.pointer none):=by simpa using b5.cell 18
 have z0:w5.frozen? ⟨g,0,none⟩=false:=b5.frozen 0
 have d0:w5.cell? ⟨g,0,none⟩=some (.int .i64 0):=by simpa using b5.cell 0
 have hl5:=b5.lt
 have hg4:=B4.out.lt
 have B5:=hI b5
 have H5:=hI h5
 have F5:=hI f5
 clear b5 h5 f5
 generalize hgh:w4.heap.size=gh at *
 go_upto_region 5 with fail
 have f6:Fr [g] w5 ((w5.setCell ⟨g,18,none⟩ (ptr gh)).setCell ⟨g,0,none⟩ (.int .i64 1)):=((Fr.refl [g] w5).setCell (p:=⟨g,18,none⟩) (.inl (by simp)) _).setCell (p:=⟨g,0,none⟩) (.inl (by simp)) _
 have b6:Blk ((w5.setCell ⟨g,18,none⟩ (ptr gh)).setCell ⟨g,0,none⟩ (.int .i64 1)) g 74 (arN isn (ptr w.heap.size) (ptr gc) (ptr gh) 1):=by simpa using (B5.out.set_ 18 (ptr gh)).set_ 0 (.int .i64 1)
 generalize (w5.setCell ⟨g,18,none⟩ (ptr gh)).setCell ⟨g,0,none⟩ (.int .i64 1)=w6 at *
 have hwg:w.heap.size<g:=by omega
 have hnS:∀ y,w.heap.size≤y→¬ S y:=fun y hy hs=>by have:=HPu.out y hs;omega
 have F56:Fr [g] w4 w6:=(F5.out.mono (by simp)).trans f6 (fun y hy => .inl hy)
 have m6:SI S w6 ⟨g,w.heap.size,gc,gh, .slice none 0 0, .slice none 0 0, .slice none 0 0⟩ (newS isn 1):=by
  refine⟨b6,Blk.fr W4.out F56 (by simp;omega),Blk.fr C4.out F56 (by simp;omega),H5.out.ext' f6 (Ext.refl w5 S) (fun y hy=>by simp at hy;subst hy;exact hnS _ (by omega)) (fun y hy=>by simp [ob,Value.ownBlock] at hy;simp;omega) (fun b hb=>by have:=HPu.out b hb;have:=FW4.out.size;have:=F56.size;omega),World.ownsRow_nil _ 0 5 1,World.ownsRow_nil _ 0 5 1,fun y hy=>?_,by simp [ob,Value.ownBlock]⟩
  simp [ob,Value.ownBlock] at hy
  rcases hy with rfl|rfl|rfl
  ·exact hnS _ (by omega)
  ·exact hnS _ (by omega)
  ·exact hnS _ (by omega)
 have FW6:Fr [] w w6:=FW4.out.trans F56 (fun y hy => .inr (by simp at hy;omega))
 have HOWN:Hid (∀ b∈(⟨g,w.heap.size,gc,gh, .slice none 0 0, .slice none 0 0, .slice none 0 0⟩:Hd).own,w.heap.size≤b):=hI (fun b hb=>by
  have:=FW4.out.size
  simp [Hd.own,ob,Value.ownBlock] at hb
  rcases hb with rfl|rfl|rfl|rfl <;> omega)
 have M6:=hI m6
 have FF6:=hI FW6
 clear z18 d18 z0 d0 m6 FW6 F56 f6 b6 B5 H5 F5 W4 C4 F24 F4 B4 F3 B3 CC3 W2 F2 B2
 cases calls
 ·go_wp2_with fail
  go_ret2
  have hv:newSV isn false=(newS isn 1,[]):=rfl
  rw [hv]
  exact⟨S,_,_,[],rfl,rfl,Ext.refl w S,M6.out,Pr.nil,by simp [ob,Value.ownBlock],FF6.out,HOWN.out⟩
 ·have z0:w6.frozen? ⟨g,0,none⟩=false:=M6.out.blk.frozen 0
  have d0:w6.cell? ⟨g,0,none⟩=some (.int .i64 1):=(scells M6.out.blk).c0
  have hl6:g<w6.heap.size:=M6.out.blk.lt
  have hiN:Inv (newV 8):=new_inv (by omega) (by omega)
  have hcN:Rto.Inv (Rto.newV 2 1 32 8):=Rto.new_inv (by omega) (by omega) (by omega) (by omega) (by omega) (by omega)
  go_wp2_with fail
  have f7:Fr [g] w6 (w6.setCell ⟨g,0,none⟩ (.int .i64 2)):=(Fr.refl [g] w6).setCell (p:=⟨g,0,none⟩) (.inl (by simp)) _
  have m7:=M6.out.set (w':=w6.setCell ⟨g,0,none⟩ (.int .i64 2)) (x':=newS isn 2) f7 (by have h:=M6.out.blk.set_ 0 (.int .i64 2);exact h) rfl rfl rfl rfl rfl
  generalize w6.setCell ⟨g,0,none⟩ (.int .i64 2)=w7 at *
  refine (begins_si m7 hiN (by simp [newS])).mono ?_
  have hv:newSV isn true=(restsV (shows (newS isn 2)),[beginsV (newS isn 2)]):=rfl
  have HV:=hI hv
  clear hv
  generalize hpp:beginsV (newS isn 2)=p at *
  rintro e w8 ⟨S8,A8,c8,rfl,x8,by8,m8,f8⟩
  have m9:=m8.fr ((Fr.refl [] w8).alloc (.cells (arP p (.slice A8 p.d.length c8)) 49))
  have p9:=pr_one by8
  have hz8:w.heap.size≤w7.heap.size:=by have:=FF6.out.size;have:=f7.size;omega
  have X8:Hid (Ext w S S8):=hI (ext_up x8 hz8)
  have F8:Hid (Fr [] w w8):=hI ((FF6.out.trans f7 (fun y hy => .inr (by simp at hy;omega))).trans f8 (fun y hy => .inr (by simp at hy;omega)))
  have HWS:Hid (w6.heap.size≤w8.heap.size):=hI (Nat.le_trans f7.size f8.size)
  have hp8:∀ b,S8 b→b<w8.heap.size:=HP.pub' m8.hp
  have HP8:=hI hp8
  have P9:=hI p9
  have M9:=hI m9
  clear x8 by8 m8 f8 m7 f7 hp8 p9 m9 z0 d0
  go_wp2_with fail
  refine (rests_si M9.out hcN (some ⟨w8.heap.size,0,none⟩) 1 1).mono ?_
  rintro e wa ⟨rfl,ma,fa⟩
  have MA:=hI ma
  have FA:=hI fa
  clear ma fa
  go_wp2_with fail
  go_ret2
  rw [HV.out]
  have hcw:gc<w8.heap.size:=by
   have h1:=M6.out.lt gc (by simp [Hd.own])
   have h2:w6.heap.size≤w8.heap.size:=by
    have:=HWS.out
    omega
   omega
  exact⟨S8,_,_,[(p, .slice A8 p.d.length c8)],rfl,rfl,X8.out,MA.out,P9.out.fr FA.out (fun y hy=>by simp at hy;subst hy;exact M9.out.nS _ (.inr (.inr (.inl rfl)))) (fun b hb=>by simp [ob,Value.ownBlock] at hb;subst hb;simp;omega) (fun _ h=>h),fun b hb=>by
   simp [ob,Value.ownBlock] at hb
   subst hb
   exact⟨F8.out.size,fun hs=>by have:=HP8.out _ hs;omega⟩,(F8.out.alloc _).trans FA.out (fun y hy => .inr (by simp at hy;subst hy;exact HOWN.out _ (by simp [Hd.own]))),HOWN.out⟩
theorem SI.keep{S S':Nat→Prop}{w w':World}{H:Hd}{x:St}{O:List Nat}(m:SI S w H x)(f:Fr O w w')(hO:∀ y∈O,y∉H.own)(hS:∀ y∈O,¬ S y)(e:Ext w S S')(hp:∀ b,S' b→b<w'.heap.size):SI S' w' H x:=by
 have hm:∀ y,y∈H.own→y∉O:=fun y hy ho=>hO y ho hy
 have hmem:∀ {y},(y=H.g∨y=H.gw∨y=H.gc∨y=H.gh∨y∈ob H.kv∨y∈ob H.bv∨y∈ob H.uv)→y∉O:=fun {y} hy=>hm y (by
  simp only [Hd.own,List.mem_cons,List.mem_append];rcases hy with h|h|h|h|h|h|h <;> simp [h])
 refine⟨m.blk.fr f (hmem (by simp)),Blk.fr m.win f (hmem (by simp)),Blk.fr m.clk f (hmem (by simp)),m.hp.ext' f e hS (fun y hy=>hmem (by rcases List.mem_cons.1 hy with h|h <;> simp [h])) hp,
  own_fr m.buf f (fun b hb=>hmem (by simp [mem_ob.2 hb])),own_fr m.unr f (fun b hb=>hmem (by simp [mem_ob.2 hb])),fun y hy hs=>?_,m.bu⟩
 rcases e.2 y hs with h|h
 ·exact m.nS y hy h
 ·have:=m.lt y (by
   simp only [Hd.own,List.mem_cons,List.mem_append]
   rcases hy with h|h|h|h|h <;> simp [h])
  omega
structure Duo(S:Nat→Prop)(w:World)(Ha Hb:Hd)(xa xb:St):Prop where
 a:SI S w Ha xa
 b:SI S w Hb xb
 ap:∀ y∈Ha.own,y∉Hb.own
section
variable {S S':Nat→Prop} {w w':World} {Ha Ha' Hb:Hd} {xa xa' xb:St} {O:List Nat}
theorem Duo.symm(d:Duo S w Ha Hb xa xb):Duo S w Hb Ha xb xa:=⟨d.b,d.a,fun y hb ha=>d.ap y ha hb⟩
theorem Duo.pub(d:Duo S w Ha Hb xa xb):∀ b,S b→b<w.heap.size:=HP.pub' d.a.hp
theorem Duo.fr(d:Duo S w Ha Hb xa xb)(f:Fr [] w w'):Duo S w' Ha Hb xa xb:=⟨d.a.fr f,d.b.fr f,d.ap⟩
theorem Duo.turn(d:Duo S w Ha Hb xa xb)(f:Fr Ha.own w w')(e:Ext w S S')(lk:Hd.like w Ha Ha')(m:SI S' w' Ha' xa'):Duo S' w' Ha' Hb xa' xb:=
 ⟨m,d.b.keep f (fun y hy=>d.ap y hy) (fun y hy=>d.a.off y hy) e (HP.pub' m.hp),fun y hy hb=>by
  rcases lk.own y hy with h|h
  ·exact d.ap y h hb
  ·have:=d.b.lt y hb;omega⟩
theorem Duo.call{r:St × List Prt}{v:Value}(d:Duo S w Ha Hb xa xb)(h:LPost S w Ha r (.returned v) w') :
  ∃ S' Ha' L,L.map (·.1)=r.2∧Ext w S S'∧Hd.like w Ha Ha'∧Duo S' w' Ha' Hb r.1 xb∧Pr S' w' v L∧(∀ b∈ob v,w.heap.size≤b∧¬ S' b)∧Fr Ha.own w w':=by
 obtain⟨S',Ha',v',L,he,hL,e,lk,m,p,n,f⟩:=h
 injection he with he
 subst he
 exact⟨S',Ha',L,hL,e,lk,d.turn f e lk m,p,n,f⟩
end
theorem prs_at:∀(L:List (Prt × Value)) (i:Nat) (x:Prt × Value),L[i]?=some x→(prs L)[i * 5]?=some (.int .i64 x.1.flags)∧(prs L)[i * 5+1]?=some (.int .u32 x.1.seq)∧(prs L)[i * 5+2]?=some (.int .u32 x.1.ack)∧(prs L)[i * 5+3]?=some (.int .u16 x.1.win)∧(prs L)[i * 5+4]?=some x.2
 | [],i,x,h=>by simp at h
 | y::L,0,x,h=>by
  simp at h
  subst h
  exact⟨rfl,rfl,rfl,rfl,rfl⟩
 | y::L,i+1,x,h=>by
  simp at h
  have:=prs_at L i x h
  rw [show (i+1) * 5=i * 5+1+1+1+1+1 by omega]
  simp only [prs,show ∀ j,j+1+1+1+1+1+1=(j+1)+1+1+1+1+1 from fun _=>rfl,show ∀ j,j+1+1+1+1+1+2=(j+2)+1+1+1+1+1 from fun _=>rfl,show ∀ j,j+1+1+1+1+1+3=(j+3)+1+1+1+1+1 from fun _=>rfl,show ∀ j,j+1+1+1+1+1+4=(j+4)+1+1+1+1+1 from fun _=>rfl,List.getElem?_cons_succ]
  exact this
structure PAt(S:Nat→Prop)(w:World)(v:Value)(n:Nat)(i:Nat)(p:Prt)(b:Nat)(A:Option Addr)(c:Nat):Prop where
 c0:w.cell? ⟨b,i * 5,none⟩=some (.int .i64 p.flags)
 c1:w.cell? ⟨b,i * 5+1,none⟩=some (.int .u32 p.seq)
 c2:w.cell? ⟨b,i * 5+2,none⟩=some (.int .u32 p.ack)
 c3:w.cell? ⟨b,i * 5+3,none⟩=some (.int .u16 p.win)
 c4:w.cell? ⟨b,i * 5+4,none⟩=some (.slice A p.d.length c)
 byt:Byt S w (.slice A p.d.length c) p.d
theorem Pr.at_{S:Nat→Prop}{w:World}{v:Value}{L:List (Prt × Value)}(h:Pr S w v L){i:Nat}{p:Prt}(hi:(L.map (·.1))[i]?=some p):∃ b k A c,v = .slice (some ⟨b,0,none⟩) L.length k∧i<L.length∧L.length≤k∧k≤maxLen∧PAt S w v L.length i p b A c:=by
 rw [List.getElem?_map] at hi
 obtain⟨x,hx,hp⟩:=Option.map_eq_some_iff.1 hi
 subst hp
 have hlt:i<L.length:=(List.getElem?_eq_some_iff.1 hx).1
 have hs:=Sl.of_own (S:=fun _=>True) h.own (fun _ _=>trivial)
 obtain⟨_,A',c',hv,h1,h2,hu⟩:=hs
 rcases h.own.2 with ⟨rfl,h0⟩|⟨g,cap,cur,rfl,_,hg,_⟩
 ·omega
 ·obtain⟨b,o,hA,_,hc⟩:=hu (by omega)
  subst hA
  injection hv with hv _ hc'
  subst hc'
  injection hv with hv
  injection hv with hb ho _
  subst hb ho
  obtain⟨q0,q1,q2,q3,q4⟩:=prs_at L i x hx
  have hby:=h.byt x (List.mem_of_getElem? hx)
  obtain⟨A,c,hxv,_,_⟩:=hby.form
  rw [hxv] at q4 hby
  have z:∀ j u,(prs L)[j]?=some u→w.cell? ⟨g,j,none⟩=some u:=fun j u h=>by have:=hc j u h;rwa [Nat.zero_add] at this
  exact⟨g,cap,A,c,rfl,hlt,h1,h2,⟨z _ _ q0,z _ _ q1,z _ _ q2,z _ _ q3,z _ _ q4,hby⟩⟩
theorem Pr.one_{S:Nat→Prop}{w:World}{v:Value}{L:List (Prt × Value)}{p:Prt}(h:Pr S w v L)(hL:L.map (·.1)=[p]):∃ b k A c,v = .slice (some ⟨b,0,none⟩) 1 k∧1≤k∧k≤maxLen ∧
  w.cell? ⟨b,0,none⟩=some (.int .i64 p.flags)∧w.cell? ⟨b,1,none⟩=some (.int .u32 p.seq)∧w.cell? ⟨b,2,none⟩=some (.int .u32 p.ack)∧w.cell? ⟨b,3,none⟩=some (.int .u16 p.win)∧w.cell? ⟨b,4,none⟩=some (.slice A p.d.length c)∧Byt S w (.slice A p.d.length c) p.d:=by
 have hl:L.length=1:=by have:=congrArg List.length hL;simpa using this
 obtain⟨b,k,A,c,hv,_,h1,h2,q⟩:=h.at_ (i:=0) (p:=p) (by rw [hL];rfl)
 rw [hl] at hv h1
 exact⟨b,k,A,c,hv,h1,h2,by simpa using q.c0,by simpa using q.c1,by simpa using q.c2,by simpa using q.c3,by simpa using q.c4,q.byt⟩
theorem Pr.none_{S:Nat→Prop}{w:World}{v:Value}{L:List (Prt × Value)}(h:Pr S w v L)(hL:L.map (·.1)=[]):∃ A k,v = .slice A 0 k:=by
 have hl:L.length=0:=by have:=congrArg List.length hL;simpa using this
 obtain⟨A,k,hv,_⟩:=own_form h.own
 exact⟨A,k,by rw [hv,hl]⟩
def DPost(S:Nat→Prop)(w:World)(Ha Hb:Hd)(xb:St)(r:St × List Prt × Int)(e:Ending)(w':World):Prop:=
 ∃ v S' Ha' L,e = .returned (.tuple #[v, .int .i64 r.2.2])∧L.map (·.1)=r.2.1∧Ext w S S'∧Hd.like w Ha Ha'∧Duo S' w' Ha' Hb r.1 xb∧Pr S' w' v L∧(∀ b∈ob v,w.heap.size≤b∧¬ S' b)∧Fr Ha.own w w'
theorem Duo.calls{S:Nat→Prop}{w w':World}{Ha Hb:Hd}{xa xb:St}{r:St × List Prt × Int}{e:Ending}(d:Duo S w Ha Hb xa xb)(h:CPost S w Ha r e w'):DPost S w Ha Hb xb r e w':=by
 obtain⟨v,he,h⟩:=h
 obtain⟨S',Ha',L,hL,x,lk,d',p,n,f⟩:=d.call h
 exact⟨v,S',Ha',L,he,hL,x,lk,d',p,n,f⟩
theorem duo_come{S:Nat→Prop}{w:World}{Ha Hb:Hd}{xa xb:St}(d:Duo S w Ha Hb xa xb)(ok:Ok xa)(p:Prt)(hw:0≤p.win∧p.win<65536)(A:Option Addr)(c:Nat)(hd:Byt S w (.slice A p.d.length c) p.d) :
  Calls Tryz.prog 16 #[ptr Ha.g,agP p (.slice A p.d.length c)] w (DPost S w Ha Hb xb (comeV xa p)):=
 (come_si d.a ok p hw.1 hw.2 A c S hd (fun b hb=>⟨fun hm=>d.a.off b hm hb,d.pub b hb⟩)).mono fun _ _ h=>d.calls h
theorem duo_write{S:Nat→Prop}{w:World}{Ha Hb:Hd}{xa xb:St}(d:Duo S w Ha Hb xa xb)(ok:Ok xa)(b:List Int)(hal:xa.all.length≤990000)(A:Option Addr)(c:Nat)(T:Nat→Prop)(hd:Byt T w (.slice A b.length c) b) :
  Calls Tryz.prog 17 #[ptr Ha.g, .slice A b.length c] w (DPost S w Ha Hb xb (writeV xa b)):=
 (write_si d.a ok.s b hal A c T hd).mono fun _ _ h=>d.calls h
def rightV(p:Prt):Bool:=decide (0≤p.flags) && (decide (p.flags≤15) && decide (p.d.length≤64))
set_option maxHeartbeats 2000000 in
theorem eright(w:World)(p:Prt)(A:Option Addr)(dc:Nat):Calls Tryz.prog 28 #[agP p (.slice A p.d.length dc)] w fun e w'=>e = .returned (.bool (rightV p))∧Fr [] w w':=by
 have f0:Fr [] w (w.alloc (.cells (arP p (.slice A p.d.length dc)) 49)):=(Fr.refl [] w).alloc _
 have b0:Blk (w.alloc (.cells (arP p (.slice A p.d.length dc)) 49)) w.heap.size 49 (arP p (.slice A p.d.length dc)):=Blk.new w _ _
 have c0:=b0.cell 0
 have c4:=b0.cell 4
 simp only [arP,List.getElem?_toArray,List.getElem?_cons_zero,List.getElem?_cons_succ] at c0 c4
 have hr:rightV p=(decide (0≤p.flags) && (decide (p.flags≤15) && decide (p.d.length≤64))):=rfl
 generalize rightV p=rv at *
 have HR:=hI hr
 clear hr b0
 by_cases h1:0≤p.flags
 ·by_cases h2:p.flags≤15
  ·by_cases h3:p.d.length≤64
   ·have hv:rv=true:=by rw [HR.out];simp [h1,h2,h3]
    have d3:decide ((p.d.length:Int)≤64)=true:=decide_eq_true (by omega)
    subst hv
    clear HR
    go_enter Tryz.func28,Tryz.ntmps28
    go_wp2_with fail
    go_ret
    exact⟨rfl,f0⟩
   ·have hv:rv=false:=by rw [HR.out];simp [h3]
    have d3:decide ((p.d.length:Int)≤64)=false:=decide_eq_false (by omega)
    subst hv
    clear HR
    go_enter Tryz.func28,Tryz.ntmps28
    go_wp2_with fail
    go_ret
    exact⟨rfl,f0⟩
  ·have hv:rv=false:=by rw [HR.out];simp [h2]
   subst hv
   clear HR
   go_enter Tryz.func28,Tryz.ntmps28
   go_wp2_with fail
   go_ret
   exact⟨rfl,f0⟩
 ·have hv:rv=false:=by rw [HR.out];simp [h1]
  subst hv
  clear HR
  go_enter Tryz.func28,Tryz.ntmps28
  go_wp2_with fail
  go_ret
  exact⟨rfl,f0⟩
set_option maxHeartbeats 4000000 in
theorem esame{S1 S2:Nat→Prop}{w:World}{va vb:Value}{La Lb:List (Prt × Value)}(pa:Pr S1 w va La)(pb:Pr S2 w vb Lb)(h:La.map (·.1)=Lb.map (·.1)) :
  Calls Tryz.prog 30 #[va,vb] w fun e w'=>e = .returned (.bool true)∧Fr [] w w':=by
 have hl:Lb.length=La.length:=by have:=congrArg List.length h;simpa using this.symm
 obtain⟨A,ca,rfl,hca1,hca2⟩:=own_form pa.own
 obtain⟨B,cb,rfl,hcb1,hcb2⟩:=own_form pb.own
 rw [hl] at hcb1 ⊢
 have PA:=hI pa
 have PB:=hI pb
 have HH:=hI h
 have HL:=hI hl
 generalize hn:La.length=n at *
 have HN:=hI hn
 unfold maxLen at hca2 hcb2
 clear pa pb h hl hn
 go_enter Tryz.func30,Tryz.ntmps30
 go_wp2_with fail
 go_loopw [5] (fun s5 wr=>∃ k:Nat,k≤n∧s5 = .int .i64 k∧Fr [] w wr) (fun s5 _=>n - (intOf s5).toNat)
 case atStart=>exact⟨0,by omega,rfl,Fr.refl _ _⟩
 case round=>
  obtain⟨k,hk,rfl,fw⟩:=hrel
  by_cases hlt:k<n
  ·obtain⟨p,hp⟩:∃ p,(La.map (·.1))[k]?=some p:=⟨_,List.getElem?_eq_getElem (by rw [List.length_map,HN.out];exact hlt)⟩
   obtain⟨b1,k1,A1,c1,hv1,i1,i2,i3,q1⟩:=(PA.out.fr fw (by simp) (by simp) (fun _ h=>h)).at_ hp
   obtain⟨b2,k2,A2,c2,hv2,j1,j2,j3,q2⟩:=(PB.out.fr fw (by simp) (by simp) (fun _ h=>h)).at_ (by rw [← HH.out];exact hp)
   injection hv1 with hv1 e1 e2
   injection hv2 with hv2 e3 e4
   subst hv1 hv2
   clear e1 e2 e3 e4
   have s1:=fun m:Nat=>(q1.byt.fr ((Fr.refl [] wr).drewN m) (by simp)).string (P:=Tryz.prog) 30 5 Tryz.underlying30 Tryz.underlying5 9 Tryz.underlying9
   have s2:=fun m:Nat=>(q2.byt.fr ((Fr.refl [] wr).drewN m) (by simp)).string (P:=Tryz.prog) 30 5 Tryz.underlying30 Tryz.underlying5 9 Tryz.underlying9
   obtain⟨x0,x1,x2,x3,x4,r1⟩:=q1
   obtain⟨y0,y1,y2,y3,y4,r2⟩:=q2
   have dk:decide ((k:Int)<(n:Int))=true:=by simpa using hlt
   clear r1 r2 i1 i2 i3 j1 j2 j3 PA PB HL HN HH
   generalize strOfNums p.d=str at *
   generalize p.d.length=dl at *
   have FW:=hI fw
   clear hp fw
   go_upto_region 6 with fail
   go_quiet (fail)
   go_wp2_with fail
   go_roundw
   case rel=>exact⟨k+1,by omega,by go_num,by first|exact FW.out.drewN _|exact FW.out.trans (by assumption) (by simp)⟩
   case measure=>simp [intOf];omega
  ·obtain rfl:n=k:=by omega
   go_wp2_with fail
   go_ret
   exact⟨rfl,fw⟩
end Go.Proofs.YtmgdbbbdhkfdmaaGreat
