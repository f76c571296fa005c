import Derived.Test.YtmhkeomphdddaaaGreatDoorLListsY4
set_option maxRecDepth 100000
set_option maxHeartbeats 2000000
namespace Go.Proofs.YtmhkeomphdddaaaGreatDoor
section
open Go.Eng Go.Pc Go
open Go.Xp hiding B D5
open Go.Ty (Ty Vr eqT tyV I4 PrOk VOk prL encV D7 L7 D3 eqI a1X a1Y a9s)
open Go.Lx (encB C4)
set_option maxHeartbeats 2000000 in
theorem b3m {m:View} {h:List Res} (hg:Glob m) (x:Sp) (hO:SOk m h x):CT Tryz.prog 88 [spV x] h m (A3 h (.bool (spP x))):=by
 have hp2:x.ty.proto.length<=9223372036854775807:=Nat.le_trans hO.ty.p (by decide);have hnr:=hO.nr;have hfr:=hO.fr;have hsr:=SRd.of hO;have hET:=hO.e.t;have hEW:=hO.e.w;have zr:∀ h',SRd m h' D2:=fun h'=>b1b m h'
 refine CT.body Tryz.call88 Tryz.func88 rfl Tryz.ntmps88 Lb rfl ?_;refine j0 ?_;refine xX fun b1=>?_
 refine kQ1 [1] ?_;refine kA5 ?_;refine xW fun b3=>?_
 refine kQ1 [1,3] ?_;refine xG (H7 (vs:=a7m) Q9 rfl rfl Ev.global rfl (fun j v hj=>by rw[Nat.zero_add];exact hg.sOne j v hj)) ?_;refine xW fun b4=>?_
 refine kQ2 [1,3,4] ?_;refine kP2 [1,3,4,13] ?_;refine H9 KKh [1,3,4] rfl (fun F' h'=>∃ w:Sp,∃ fb:Bool,∃ lo:Int,∃ hi:Int,(((1<=x.k/\x.k<=5)/\w=a2K x/\SRd m h w)/\(fb=a2j x/\(lo=1/\hi=if x.k=1 then 8 else 1)))/\F'=[(5,.bool fb)]/\.pt b4 (.cells [.int .i64 lo,.int .i64 hi].toArray 167 (0,0))::.pt b3 (.cells (spE w).toArray 44 (0,0))::.pt b1 (.cells (spE x).toArray 44 (0,0))::h=h') ?_ ?_;refine kQ2 [1,3,4,13,14] ?_;refine wc (fun c14=>?_) fun c14=>?_
 replace c14:=F9 c14;refine jE ?_;refine WC.take (r:=.pt b4 _) De ?_;refine F2 [3] (.op 0 (.op 1 (.op 2 (.op 3 .nil)))) [4,5] _ [_] D6 (fun _ _ _ _ _ h=>h) [] (by kernel_rfl) ?_;refine yG rfl (H7 (vs:=a5X) Q9 rfl rfl Ev.global rfl (fun j v hj=>by rw[Nat.zero_add];exact hg.sSome j v hj)) ?_;refine kA2 ?_;refine SR.store rfl rfl rfl Et Et rfl rfl rfl rfl Up ?_;refine SR.nil rfl rfl ?_;refine kQ2 [1,3,4] ?_;refine kA2 ?_;refine xf (E1 Et) (Ty9.may_ct x.ty _ _ hg hp2) ?_;refine kA1 ?_
 refine WL.nil (C8 [(5,.bool (Go.Ty.may x.ty))] (h'':=.pt b4 (.cells [.int .i64 1,.int .i64 8].toArray 167 (0,0))::.pt b3 (.cells (spE (.mk x.k x.ty x.names A2 false B7 B7 none 0 [])).toArray 44 (0,0))::.pt b1 (.cells (spE x).toArray 44 (0,0))::h) ?_ Su Sb ⟨.mk x.k x.ty x.names A2 false B7 B7 none 0 [],Go.Ty.may x.ty,1,8,⟨⟨by omega,by unfold a2K;rw[if_pos c14],⟨(zr h).b,hsr.nr,(zr h).e,(zr h).v,(zr h).fr⟩⟩,by unfold a2j;rw[if_pos c14],rfl,by rw[if_pos c14]⟩,rfl,rfl⟩);exact Su;replace c14:=F7 c14;refine kQ2 [1,3,4,13,23] ?_;refine wc (fun c23=>?_) fun c23=>?_
 replace c23:=F9 c23;refine jE ?_;refine WC.take (r:=.pt b3 _) De ?_;refine F2 [5] (.op 0 (.op 1 (.op 2 (.op 3 (.op 4 (.op 5 .nil)))))) [6,7] _ [_] D6 (fun _ _ _ _ _ h=>h) [] (by kernel_rfl) ?_;refine kA5 ?_;refine SR.store rfl rfl rfl Et Et rfl rfl rfl rfl Up ?_;refine a1G (H:=_) rfl (List.Perm.swap _ _ _) ?_;refine kQ2 [1,3,4] ?_;refine kA2 ?_;refine xf (E1 Et) (a4U x.ty _ _ hg hp2) ?_;refine kA3 ?_;refine A7 (GU.t rfl rfl) (fun hc=>⟨Ef,(E1 (Eg hc)),may_ct hg x.e _ (hET.mono Sb) hEW⟩) Lb ?_;refine kA2 ?_
 refine WL.nil (C8 [(5,.bool (a1A x.ty&&M0 x.e))] (h'':=.pt b4 (.cells [.int .i64 1,.int .i64 1].toArray 167 (0,0))::.pt b3 (.cells (spE (.mk x.k x.ty x.names x.e false B7 B7 none 0 [])).toArray 44 (0,0))::.pt b1 (.cells (spE x).toArray 44 (0,0))::h) ?_ Su Sb ⟨.mk x.k x.ty x.names x.e false B7 B7 none 0 [],a1A x.ty&&M0 x.e,1,1,⟨⟨by omega,by unfold a2K;rw[if_neg c14,if_pos c23],⟨(zr h).b,hsr.nr,hsr.e,(zr h).v,(zr h).fr⟩⟩,by unfold a2j;rw[if_neg c14,if_pos c23],rfl,by rw[if_neg c14]⟩,rfl,rfl⟩);exact Su;replace c23:=F7 c23;refine kQ2 [1,3,4,13,39] ?_;refine wc (fun c39=>?_) fun c39=>?_
 replace c39:=F9 c39;refine jE ?_;refine WC.take (r:=.pt b3 _) De ?_;refine F2 [5] (.op 0 (.op 1 (.op 2 (.op 3 (.op 4 (.op 5 .nil)))))) [6,7] _ [_] D6 (fun _ _ _ _ _ h=>h) [] (by kernel_rfl) ?_;refine kA5 ?_;refine SR.store rfl rfl rfl Et Et rfl rfl rfl rfl Up ?_;refine a1G (H:=_) rfl (List.Perm.swap _ _ _) ?_;refine kQ2 [1,3,4] ?_;refine kA2 ?_;refine xf (E1 Et) (a4U x.ty _ _ hg hp2) ?_;refine kA3 ?_;refine A7 (GU.t rfl rfl) (fun hc=>⟨Ef,(E1 (Eg hc)),a3I hg x.e (hO.e.mono Sb)⟩) Lb ?_;refine kA2 ?_
 refine WL.nil (C8 [(5,.bool (a1A x.ty&&N7 x.e))] (h'':=.pt b4 (.cells [.int .i64 1,.int .i64 1].toArray 167 (0,0))::.pt b3 (.cells (spE (.mk x.k x.ty x.names x.e false B7 B7 none 0 [])).toArray 44 (0,0))::.pt b1 (.cells (spE x).toArray 44 (0,0))::h) ?_ Su Sb ⟨.mk x.k x.ty x.names x.e false B7 B7 none 0 [],a1A x.ty&&N7 x.e,1,1,⟨⟨by omega,by unfold a2K;rw[if_neg c14,if_neg c23,if_pos c39],⟨(zr h).b,hsr.nr,hsr.e,(zr h).v,(zr h).fr⟩⟩,by unfold a2j;rw[if_neg c14,if_neg c23,if_pos c39],rfl,by rw[if_neg c14]⟩,rfl,rfl⟩);exact Su;replace c39:=F7 c39;refine kQ2 [1,3,4,13,55] ?_;refine wc (fun c55=>?_) fun c55=>?_
 replace c55:=F9 c55;refine kQ4 [1,3,4] ?_;refine kA2 ?_;refine xf (E1 Et) (Ty9.mayProto_ct x.cs x.vs.a x.vs.l.length x.vs.c x.vs.l _ _ hg (hO.v.mono Vl Sb)) ?_;refine kA1 ?_;refine WL.nil (C8 [(5,.bool (Go.Ty.mayPr x.cs x.vs.l))] (h'':=.pt b4 (.cells [.int .i64 1,.int .i64 1].toArray 167 (0,0))::.pt b3 (.cells (spE (.mk x.k Go.Ty.zeroT x.names A2 x.cs x.vs B7 none 0 [])).toArray 44 (0,0))::.pt b1 (.cells (spE x).toArray 44 (0,0))::h) ?_ Su Sb ⟨.mk x.k Go.Ty.zeroT x.names A2 x.cs x.vs B7 none 0 [],Go.Ty.mayPr x.cs x.vs.l,1,1,⟨⟨by omega,by unfold a2K;rw[if_neg c14,if_neg c23,if_neg c39,if_pos c55],⟨(zr h).b,hsr.nr,(zr h).e,hsr.v,(zr h).fr⟩⟩,by unfold a2j;rw[if_neg c14,if_neg c23,if_neg c39,if_pos c55],rfl,by rw[if_neg c14]⟩,rfl,rfl⟩);exact Su;replace c55:=F7 c55;refine kQ2 [1,3,4,63] ?_;refine wc (fun c63=>?_) fun c63=>?_
 replace c63:=F9 c63;refine jE ?_;refine WC.take (r:=.pt b3 _) De ?_;refine F2 [5] (.op 0 (.op 1 (.op 2 (.op 3 (.op 4 (.op 5 .nil)))))) [6,7] _ [_] D6 (fun _ _ _ _ _ h=>h) [] (by kernel_rfl) ?_;refine kA5 ?_;refine SR.store rfl rfl rfl Et Et rfl rfl rfl rfl Up ?_;refine a1G (H:=_) rfl (List.Perm.swap _ _ _) ?_;refine kQ2 [1,3,4] ?_;refine kA7 ?_;refine zG (fun _=>PO.build Q9 rfl rfl rfl Eb (by exact rfl)) ?_;refine A7 (GU.t rfl rfl) (fun hc=>⟨Ef,(E3 (Eg hc) (Eg hc) Ef),b5k 139 [] foP 0 8 _ _ _ x.fs.l _ _ (fun f hf h' hh=>b8l hg f (hO.fw f hf)) (hfr.mono Vl Sb)⟩) Lb ?_;refine kA2 ?_
 refine WL.nil (C8 [(5,.bool (((x.bl.length:Int)==1)&&a0G x.fs.l 0 8 foP))] (h'':=.pt b4 (.cells [.int .i64 1,.int .i64 1].toArray 167 (0,0))::.pt b3 (.cells (spE (.mk x.k Go.Ty.zeroT x.names A2 false B7 x.fs x.ba x.bc x.bl)).toArray 44 (0,0))::.pt b1 (.cells (spE x).toArray 44 (0,0))::h) ?_ Su Sb ⟨.mk x.k Go.Ty.zeroT x.names A2 false B7 x.fs x.ba x.bc x.bl,((x.bl.length:Int)==1)&&a0G x.fs.l 0 8 foP,1,1,⟨⟨by omega,by unfold a2K;rw[if_neg c14,if_neg c23,if_neg c39,if_neg c55],⟨hsr.b,hsr.nr,(zr h).e,(zr h).v,hsr.fr⟩⟩,by unfold a2j;rw[if_neg c14,if_neg c23,if_neg c39,if_neg c55],rfl,by rw[if_neg c14]⟩,rfl,rfl⟩);exact Su;replace c63:=F7 c63;refine kQ1 [2] ?_;refine wT h ?_;exact⟨by unfold spP;rw[if_neg (by omega)],rfl⟩;rintro _ _ ⟨w,fb,lo,hi,⟨⟨hkk,hw,hwr⟩,hfb,hlo,hhi⟩,rfl,rfl⟩;refine B1 rfl ?_;subst hlo;refine kA4 ?_;refine zG (fun _=>pA Q9) ?_
 refine A7 (GU.t rfl rfl) (fun hc=>⟨Ef,(E3 (Eg hc) (Eg hc) Ef),b4h 119 [] Go.Lx.name 1 hi _ _ _ x.names.l _ _ (fun s hs h' hh=>Z6 s _ _ hg (Nat.le_trans (hO.nw s hs) (by decide))) (hnr.mono Vl Sb)⟩) Lb ?_;refine kA2 ?_;refine zG (fun _=>pA a8c) ?_;refine zG (fun _=>pA a8c) ?_;refine A7 (GU.t rfl rfl) (fun hc=>⟨Ef,(E2 (Eg hc) (Eg hc)),a9d x w (hsr.mono Sb) (hwr.mono Sb)⟩) Lb ?_;refine kQ2 [2] ?_;refine wT h ?_;exact⟨by unfold spP;rw[if_pos hkk,<- hfb,<- hw,<- hhi],rfl⟩
theorem b4l {m:View} {h:List Res} (hg:Glob m) (b3:Nat) (u:Us) (x:Gu) (hb:Res.pt b3 (.cells (usE u).toArray 183 (0,0)) ∈ h) (hO:GOk m h x):CT Tryz.prog 114 [guV x,.pointer (some ⟨b3,0,none⟩)] h m (A3 h (.bool (inG u x))):=by
 refine CT.body Tryz.call114 Tryz.func114 rfl Tryz.ntmps114 Lb rfl ?_;refine j0 ?_;refine xX fun b2=>?_
 refine kQ1 [1,2] ?_;refine kA3 ?_;refine xG (D0 b4a rfl Et (List.Mem.tail _ hb) rfl) ?_;refine kA5 ?_;refine zG (fun hc=>D0 b4a rfl (Eg hc) (List.Mem.tail _ hb) rfl) ?_;refine kA3 ?_;refine zG (fun _=>pA a4Q) ?_;refine A7 (GU.t rfl rfl) (fun hc=>⟨Ef,(E1 (Eg hc)),b5m hg x (hO.mono Sb)⟩) Lb ?_;refine kQ2 [3] ?_;refine wT h ?_;exact⟨rfl,rfl⟩
theorem b4X {m:View} {h:List Res} (n:Int):CT Tryz.prog 125 [.int .i64 n] h m (A3 h (.bool (decide (n >= 0)&&decide (n < 8)))):=by
 refine CT.body Tryz.call125 Tryz.func125 rfl Tryz.ntmps125 Lb rfl ?_;refine kQ1 [0] ?_;refine kQ7 [2] ?_;refine wT h ?_;exact⟨rfl,rfl⟩
set_option maxHeartbeats 4000000 in
theorem b0x {m:View} {h:List Res} (hg:Glob m) (p:Pr) (hO:P1 m h p):CT Tryz.prog 60 [prV p] h m (A3 h (.bool (Q7 p))):=by
 have hn2:p.name.length<=9223372036854775807:=Nat.le_trans hO.n (by decide);have htg:=hO.tg.rd;have hex:=hO.ex.rd;have hgr:=hO.g;have hpn:=hO.pn;have hsr:=SRd.of hO.sp;refine CT.body Tryz.call60 Tryz.func60 rfl Tryz.ntmps60 Lb rfl ?_;refine j0 ?_;refine xX fun b1=>?_
 refine kQ1 [1] ?_;refine kA2 ?_;refine xf (E1 Et) (b4G hg p.k) ?_;refine kA3 ?_;refine xW fun b3=>?_
 refine kQ2 [1,3,4] ?_;refine kA5 ?_;refine A7 (GU.f rfl rfl) (fun hc=>⟨Ef,(E1 (Eg hc)),c1E hg p.rep hO.rn (hO.rb.mono Sb) (hO.rc.mono Sb)⟩) Lb ?_;refine kQ2 [1,3,20] ?_;refine wc (fun c20=>?_) fun c20=>?_
 have hR:Q7 p=false:=by unfold Q7;rw[if_pos (show(!(C0 p.k).2||!a4D p.rep)=true from c20)]
 refine kQ1 [2] ?_;refine wT h ?_;exact⟨by rw[hR],rfl⟩;have hR:Q7 p=if p.rep.name != [] then (if !(C0 p.k).1.rep then false else V0 p (b6z (C0 p.k).1)) else V0 p (C0 p.k).1:=by
  unfold Q7;rw[if_neg (by rw[show(!(C0 p.k).2||!a4D p.rep)=false from c20];decide)]
 refine kQ0 [1,3] ?_;refine kA3 ?_;refine xG (P2 Et Ek) ?_;refine kP0 [1,3,24] ?_;refine H9 KKh [1,3] rfl (fun F' h'=>∃ u:Us,(Q7 p=V0 p u)/\F'=[]/\.pt b3 (.cells (usE u).toArray 183 (0,0))::.pt b1 (.cells (prE p).toArray 46 (0,0))::h=h') ?_ ?_;refine jE ?_;refine wc (fun c24=>?_) fun c24=>?_
 rw[if_pos (show(p.rep.name != [])=true from c24)] at hR;refine kQ3 [1,3,27] ?_;refine wc (fun c27=>?_) fun c27=>?_
 rw[if_pos (show(!(C0 p.k).1.rep)=true from c27)] at hR;refine kQ1 [2] ?_;refine wT h ?_;exact⟨by rw[hR],rfl⟩;rw[if_neg (by rw[show(!(C0 p.k).1.rep)=false from c27];decide)] at hR;refine kQ0 [1,3] ?_;refine kA2 ?_;refine xG (H7 (vs:=b9u) Q9 rfl rfl Ev.global rfl (fun j v hj=>by rw[Nat.zero_add];exact hg.sAll j v hj)) ?_;refine xG (a0f Q9 (by kernel_rfl) (by kernel_rfl) Et Et rfl) ?_;refine kQ0 [1,3,31] ?_;refine wc (fun c31=>?_) fun c31=>?_
 have hA:b6W (C0 p.k).1=true:=by unfold b6W;simpa using c31
 have hR:Q7 p=V0 p { (C0 p.k).1 with p0:=1,p1:=1 }:=by rw[hR];unfold b6z;rw[if_pos hA]
 refine j0 ?_;refine xG (H7 (vs:=a7m) Q9 rfl rfl Ev.global rfl (fun j v hj=>by rw[Nat.zero_add];exact hg.sOne j v hj)) ?_;refine kA2 ?_;refine WL.nil (C8 [] (h'':=.pt b3 (.cells (usE ({ (C0 p.k).1 with p0:=1,p1:=1 })).toArray 183 (0,0))::.pt b1 (.cells (prE p).toArray 46 (0,0))::h) ?_ Su Sb ⟨{ (C0 p.k).1 with p0:=1,p1:=1 },hR,rfl,rfl⟩);exact Su;have hA:¬ b6W (C0 p.k).1=true:=by unfold b6W;simpa using c31
 have hR:Q7 p=V0 p { (C0 p.k).1 with g0:=1,g1:=1 }:=by rw[hR];unfold b6z;rw[if_neg hA]
 refine j0 ?_;refine xG (H7 (vs:=a7m) Q9 rfl rfl Ev.global rfl (fun j v hj=>by rw[Nat.zero_add];exact hg.sOne j v hj)) ?_;refine kA2 ?_;refine WL.nil (C8 [] (h'':=.pt b3 (.cells (usE ({ (C0 p.k).1 with g0:=1,g1:=1 })).toArray 183 (0,0))::.pt b1 (.cells (prE p).toArray 46 (0,0))::h) ?_ Su Sb ⟨{ (C0 p.k).1 with g0:=1,g1:=1 },hR,rfl,rfl⟩);exact Su;rw[if_neg (by rw[show(p.rep.name != [])=false from c24];decide)] at hR;refine WC.skip (C8 [] (h'':=.pt b3 (.cells (usE ((C0 p.k).1)).toArray 183 (0,0))::.pt b1 (.cells (prE p).toArray 46 (0,0))::h) ?_ Su Sb ⟨(C0 p.k).1,hR,rfl,rfl⟩);exact Su;rintro _ _ ⟨u,hu,rfl,rfl⟩;refine B1 rfl ?_;refine kA1 ?_;refine xW fun b5=>?_
 refine kQ1 [1,3,5] ?_;refine kP2 [1,3,5,38] ?_;refine H9 KKh [1,3,5] rfl (fun F' h'=>∃ lo:Int,∃ hi:Int,(lo=(if u.procs then (p.ll.length:Int) else 0)/\hi=(if u.procs then (p.ll.length:Int) else 0))/\F'=[]/\.pt b5 (.cells [.int .i64 lo,.int .i64 hi].toArray 167 (0,0))::.pt b3 (.cells (usE u).toArray 183 (0,0))::.pt b1 (.cells (prE p).toArray 46 (0,0))::h=h') ?_ ?_;refine jE ?_;refine wc (fun c38=>?_) fun c38=>?_
 refine kA8 ?_;refine WL.nil (C8 [] (h'':=.pt b5 (.cells [.int .i64 ((p.ll.length:Int)),.int .i64 ((p.ll.length:Int))].toArray 167 (0,0))::.pt b3 (.cells (usE u).toArray 183 (0,0))::.pt b1 (.cells (prE p).toArray 46 (0,0))::h) ?_ Su Sb ⟨(p.ll.length:Int),(p.ll.length:Int),⟨by rw[if_pos c38],by rw[if_pos c38]⟩,rfl,rfl⟩);exact Su;refine WC.skip (C8 [] (h'':=.pt b5 (.cells [.int .i64 0,.int .i64 0].toArray 167 (0,0))::.pt b3 (.cells (usE u).toArray 183 (0,0))::.pt b1 (.cells (prE p).toArray 46 (0,0))::h) ?_ Su Sb ⟨0,0,⟨by rw[if_neg (by rw[c38];decide)],by rw[if_neg (by rw[c38];decide)]⟩,rfl,rfl⟩);exact Su;rintro _ _ ⟨lo,hi,⟨hlo,hhi⟩,rfl,rfl⟩;refine B1 rfl ?_;refine j0 ?_;refine xG (PO.makeFunc Evs.nil (E1 Et)) ?_;refine kQ1 [1,3,5,6] ?_
 refine dS [5,12,19,23,30,33,34,41,48,54,62] (.op 0 (.op 1 (.op 2 (.op 3 (.op 4 (.op 5 (.op 6 (.op 7 (.op 8 (.op 9 (.op 10 (.op 11 (.op 12 (.op 13 (.op 14 (.op 15 (.op 16 (.op 17 (.op 18 (.op 20 (.op 21 (.op 22 (.op 19 (.op 23 (.op 24 (.op 25 (.op 26 (.op 27 (.op 28 (.op 29 (.op 31 (.op 32 (.op 30 (.op 33 (.op 34 (.op 35 (.op 36 (.op 37 (.op 38 (.op 39 (.op 40 (.op 41 (.op 42 (.op 43 (.op 44 (.op 45 (.op 46 (.op 47 (.op 48 (.op 49 (.op 50 (.op 51 (.op 52 (.op 53 (.op 54 (.op 55 (.op 56 (.op 57 (.op 58 (.op 59 (.op 60 (.op 61 (.op 62 (.op 63 (.op 64 (.op 65 (.op 66 (.op 67 (.op 68 (.op 69 (.op 70 (.op 71 .nil)))))))))))))))))))))))))))))))))))))))))))))))))))))))))))))))))))))))) [72,73,74,75,76] D6 ?_;refine kA4 ?_;refine yG rfl (S4 c1Y Et) ?_;refine yf rfl (E2 Et Et) (fun fr=>a5B u.p0 u.p1 p.ll.length _ _) ?_;refine kA5 ?_;refine B6 rfl rfl (GU.t rfl rfl) (fun hc=>PO.move Et) Lb ?_
 refine G7 rfl rfl (GU.t rfl rfl) (fun hc=>⟨Ef,(E3 (Eg hc) (Eg hc) (Eg hc)),fun fr=>b5H 114 [.pointer (some ⟨b3,0,none⟩)] (inG u) u.g0 u.g1 _ _ _ p.gl _ _ (fun x hx h' hh=>b4l hg b3 u x (hh.subset (List.mem_append_right _ Me)) ((hO.gs x hx).mono (List.Sublist.trans Sb hh))) (hgr.mono Vl Sb)⟩) Lb ?_;refine kA8 ?_;refine B6 rfl rfl (GU.t rfl rfl) (fun hc=>M6 (Eg hc) Ek) Lb ?_;refine G7 rfl rfl (GU.t rfl rfl) (fun hc=>⟨Ef,(E1 (Eg hc)),fun fr=>Z6 p.name _ _ hg hn2⟩) Lb ?_;refine G7 rfl rfl (GU.t rfl rfl) (fun hc=>⟨Ef,(E3 (Eg hc) (Eg hc) (Eg hc)),fun fr=>a0L _ _ _ _ _⟩) Lb ?_;refine kA8 ?_;refine G7 rfl rfl (GU.t rfl rfl) (fun hc=>⟨Ef,(E1 (Eg hc)),fun fr=>a3I hg p.ch (hO.ch.mono Sb)⟩) Lb ?_;refine G7 rfl rfl (GU.t rfl rfl) (fun hc=>⟨Ef,(E1 (Eg hc)),fun fr=>a1x p.ch (hO.ch.t.mono Sb)⟩) Lb ?_;refine G7 rfl rfl (GU.t rfl rfl) (fun hc=>⟨Ef,(E3 (Eg hc) (Eg hc) (Eg hc)),fun fr=>a0L _ _ _ _ _⟩) Lb ?_
 refine kA6 ?_;refine G7 rfl rfl (GU.t rfl rfl) (fun hc=>⟨Ef,(E3 (Eg hc) (Eg hc) Ef),fun fr=>a3Y 120 [] N7 u.t0 u.t1 _ _ _ p.tg.l _ _ (fun x hx h' hh=>a3I hg x ((hO.tg.ok x hx).mono (List.Sublist.trans Sb hh))) (htg.mono Vl Sb)⟩) Lb ?_;refine kA6 ?_;refine G7 rfl rfl (GU.t rfl rfl) (fun hc=>⟨Ef,(E3 (Eg hc) (Eg hc) Ef),fun fr=>a3Y 123 [] M0 u.e0 u.e1 _ _ _ p.ex.l _ _ (fun x hx h' hh=>may_ct hg x _ ((hO.ex.ok x hx).t.mono (List.Sublist.trans Sb hh)) (hO.ex.ok x hx).w) (hex.mono Vl Sb)⟩) Lb ?_;refine kA4 ?_;refine B6 rfl rfl (GU.t rfl rfl) (fun hc=>V3 Q9 rfl rfl Et Me rfl) Lb ?_;refine G7 rfl rfl (GU.t rfl rfl) (fun hc=>⟨Ef,(E3 (Eg hc) (Eg hc) Ef),fun fr=>b5J 125 [] (fun n=>decide (n >= 0)&&decide (n < 8)) lo hi _ _ _ p.pn.l _ _ (fun x _ _ _=>b4X x) (hpn.mono Vl Sb)⟩) Lb ?_;refine kA4 ?_;refine B6 rfl rfl (GU.t rfl rfl) (fun hc=>PO.move (Eg hc)) Lb ?_
 refine B6 rfl rfl (X5 rfl rfl) (fun hc=>PO.fieldAddr S1 rfl (Nat.ne_of_beq_eq_false rfl) Et) Lb ?_;refine B6 rfl rfl (X5 rfl rfl) (fun hc=>V3 a8c rfl rfl (Eg hc) Me rfl) Lb ?_;refine G7 rfl rfl (X5 rfl rfl) (fun hc=>⟨Ef,(E1 (Eg hc)),fun fr=>b3m hg p.sp (hO.sp.mono Sb)⟩) Lb ?_;refine B6 rfl rfl (GU.t rfl rfl) (fun hc=>Q4 hc rfl rfl) Lb ?_;refine B6 rfl rfl (GU.t rfl rfl) (fun hc=>PO.move (Eg hc)) Lb ?_;refine B6 rfl rfl (a3p rfl rfl) (fun hc=>PO.fieldAddr U9 rfl (Nat.ne_of_beq_eq_false rfl) Et) Lb ?_;refine B6 rfl rfl (a3p rfl rfl) (fun hc=>D0 uu4 rfl (Eg hc) Me rfl) Lb ?_;refine B6 rfl rfl (a3p rfl rfl) (fun hc=>PO.not (Eg hc)) Lb ?_;refine B6 rfl rfl (a3p rfl rfl) (fun hc=>PO.move (Eg hc)) Lb ?_;refine B6 rfl rfl (X5 rfl rfl) (fun hc=>PO.fieldAddr S1 rfl (Nat.ne_of_beq_eq_false rfl) Et) Lb ?_;refine B6 rfl rfl (X5 rfl rfl) (fun hc=>V3 a8c rfl rfl (Eg hc) Me rfl) Lb ?_
 refine B6 rfl rfl (X5 rfl rfl) (fun hc=>PO.build a8c rfl rfl rfl EvP.nil rfl) Lb ?_;refine SR.nil rfl rfl ?_;refine A7 (X5 rfl rfl) (fun hc=>⟨Ef,(E2 (Eg hc) (Eg hc)),b6u p.sp (hsr.mono Sb)⟩) Lb ?_;refine F6 (a3p rfl rfl) (fun hc=>Q4 hc rfl rfl) Lb ?_;refine zG (fun hc=>a2y hc rfl rfl) ?_;refine kQ2 [2] ?_;refine wT h ?_;exact⟨by rw[hu];unfold V0;rw[<- hlo,show hi=lo from hhi.trans hlo.symm],rfl⟩
abbrev ctR (bc:Nat) (q:Int):Res:=.pt bc (.cells [.int .i64 q].toArray 98 (0,0))
theorem b3L {l:List Pr} {x:Pr} (h:l[0]?=some x) (d q:Int):a46 l d q=J8 x d false q:=by
 cases l with
 | nil=>cases h
 | cons y r=>cases h;rfl
theorem b0g {p:Pr} {d left:Int} {pl:Bool} (h0:0<=left) (h:(J8 p d pl left).1=true):0<=(J8 p d pl left).2/\(J8 p d pl left).2<=left:=by
 obtain⟨h1,h2⟩:=(a7g p d pl left h0 h).2 h;exact⟨h2,by omega⟩
def b6D (p:Pr) (bl d:Int) (pl:Bool) (i:Nat) (q:Int):Bool × Int:=if (X3 (p.ll.drop i) bl pl q).1 then a1T p.gl (d+2) (X3 (p.ll.drop i) bl pl q).2 else X3 (p.ll.drop i) bl pl q
set_option maxHeartbeats 4000000 in
theorem b7X {m:View} (hg:Glob m) (p:Pr):∀ (h:List Res) (bc:Nat) (d left:Int) (pl:Bool),POk m h p->(0<=d/\d<=34)->(0<=left/\left<=2048) ->
 CT Tryz.prog 35 [.pointer (some ⟨bc,0,none⟩),prV p,.int .i64 d,.bool pl] (ctR bc left::h) m (A3 (ctR bc (J8 p d pl left).2::h) (.bool (J8 p d pl left).1)):=by
 refine Pr.ind (q:=fun p=>∀ (h:List Res) (bc:Nat) (d left:Int) (pl:Bool),POk m h p->(0<=d/\d<=34)->(0<=left/\left<=2048) ->
  CT Tryz.prog 35 [.pointer (some ⟨bc,0,none⟩),prV p,.int .i64 d,.bool pl] (ctR bc left::h) m (A3 (ctR bc (J8 p d pl left).2::h) (.bool (J8 p d pl left).1))) (fun p ih h bc d left pl hP hd hlf=>?_) p
 have hO:=hP.own;have hlr:=hO.l;have hgr:=hO.g;have hbr:=hO.sp.b;have lmx:=hlr.mx;have lle:=hlr.le;have gmx:=hgr.mx;have gle:=hgr.le;have he:=a6n p d pl left;obtain⟨G,hG⟩:∃ G,G=J8 p d pl left:=⟨_,rfl⟩;rw[<- hG] at he ⊢;refine CT.body Tryz.call35 Tryz.func35 rfl Tryz.ntmps35 Lb rfl ?_;refine j0 ?_;refine xX fun b5=>?_
 refine kQ1 [0,2,3,5] ?_;refine kA4 ?_;refine xG (U0 Et Ek (by omega)) ?_;refine kQ3 [0,2,3,5] ?_;refine a9N ?_;refine zG (fun _=>pA S1) ?_;refine A7 (GU.f rfl rfl) (fun hc=>⟨Ef,(E1 (Eg hc)),b0x hg p (hO.mono Sb)⟩) Lb ?_;refine kA9 ?_;refine zG (fun hc=>Q4 hc rfl rfl) ?_;refine kQ1 [0,2,3,5,43] ?_;refine wc (fun c43=>?_) fun c43=>?_
 have hh:a0g p d pl left=true:=c43;rw[hh,if_pos rfl] at he;refine kQ1 [8] ?_;refine wT (ctR bc (left - 1)::h) ?_;exact⟨by rw[he],by rw[he]⟩;have hh:a0g p d pl left=false:=c43;rw[hh,if_neg (by decide)] at he;obtain⟨⟨hl0,hd2⟩,hpl⟩:=b0s hh;have hV:=a4y hpl;obtain⟨y,hy⟩:∃ y:Pr,0 < p.sp.bl.length->p.sp.bl[0]?=some y:=by
  cases hb:p.sp.bl with
  | nil=>exact⟨p,fun q=>absurd q (by simp)⟩
  | cons y r=>exact⟨y,fun _=>rfl⟩
 refine kQ0 [0,2,3,5] ?_;refine kQ3 [0,2,3,5,9] ?_;refine kP2 [0,2,3,5,9,47] ?_;refine H9 KKh [0,2,3,5] rfl (fun F' h'=>∃ bl:Int,∃ q:Int,((0<=bl/\bl<=34)/\(0<=q/\q<=2048)/\G=b6D p bl d (pl&&(p.k==18)) 0 q)/\F'=[(9,.int .i64 bl)]/\.pt b5 (.cells (prE p).toArray 46 (0,0))::ctR bc q::h=h') ?_ ?_;refine kQ2 [0,2,3,5,9,47,48] ?_;refine wc (fun c48=>?_) fun c48=>?_
 replace c48:=F9 c48;rw[if_neg (by omega),if_pos c48] at he;refine kA3 ?_;refine WL.nil (C8 [(9,.int .i64 (d+2))] (h'':=.pt b5 (.cells (prE p).toArray 46 (0,0))::ctR bc (left - 1)::h) ?_ Su Sb ⟨d+2,left - 1,⟨⟨by omega,by omega⟩,⟨by omega,by omega⟩,by rw[he,show(p.k==18)=false by rw[c48];rfl,Bool.and_false];rfl⟩,rfl,rfl⟩);exact Su;replace c48:=F7 c48;refine kQ2 [0,2,3,5,9,52] ?_;refine wc (fun c52=>?_) fun c52=>?_
 replace c52:=F9 c52;rw[if_pos c52] at he;have hsl:p.sp.bl.length<=1:=c0M (hV.sp (by rw[c52];rfl));have hyi:0 < p.sp.bl.length->In y p:=fun q=>In.s (List.mem_of_getElem? (hy q))
 have hS:=a6u p.sp d (left - 1);have hS0:¬ 0 < p.sp.bl.length->a46 p.sp.bl (d+1) (left - 1)=(true,left - 1):=fun q=>by
  have hb:p.sp.bl=[]:=List.eq_nil_of_length_eq_zero (by omega);rw[hb];rfl
 have hcall:(!(p.sp.cs&&decide (d+2 > 32))&&decide ((p.sp.bl.length:Int) > 0))=true->CT Tryz.prog 35 [.pointer (some ⟨bc,0,none⟩),prV y,.int .i64 (d+1),.bool false] (.pt b5 (.cells (prE p).toArray 46 (0,0))::ctR bc (left - 1)::h) m
  (A3 (.pt b5 (.cells (prE p).toArray 46 (0,0))::ctR bc (Z9 p.sp d (left - 1)).2::h) (.bool (a46 p.sp.bl (d+1) (left - 1)).1)):=by
  intro hc;have h1:0 < p.sp.bl.length:=by simp at hc;omega
  have h2:¬ (p.sp.cs&&decide (d+2 > 32))=true:=by intro q;rw[q] at hc;simp at hc
  rw[hS,if_neg h2,b3L (hy h1)];exact CT.perm (List.Perm.swap _ _ _) (ih y (hyi h1) (.pt b5 (.cells (prE p).toArray 46 (0,0))::h) bc (d+1) (left - 1) false ((hP.sub (hyi h1)).mono Sb) ⟨by omega,by omega⟩ ⟨by omega,by omega⟩) (List.Perm.swap _ _ _)
 have hskip:(!(p.sp.cs&&decide (d+2 > 32))&&decide ((p.sp.bl.length:Int) > 0))=false->(Res.pt b5 (.cells (prE p).toArray 46 (0,0))::ctR bc (Z9 p.sp d (left - 1)).2::h)=.pt b5 (.cells (prE p).toArray 46 (0,0))::ctR bc (left - 1)::h:=by
  intro hc;have h3:(Z9 p.sp d (left - 1)).2=left - 1:=by
   rw[hS];split
   ·rfl
   ·rename_i h2
    rw[hS0 (fun q=>(by
     have h4:decide ((p.sp.bl.length:Int) > 0)=true:=by simp;omega
     rw[h4,Bool.and_true] at hc;exact h2 (by simpa using hc)))]
  rw[h3]
 refine kQ2 [0,2,3,5,9] ?_;refine kA6 ?_;refine F6 (GU.t rfl rfl) (fun hc=>M2 (Eg hc) Ek (by first | omega | (simp at hc;omega))) Lb ?_;refine a6M ?_;refine kA1 ?_;refine F6 (X5 rfl rfl) (fun hc=>G1 Z8.und Z8.size Z8.posz (Eg hc) Ek Rr rfl (q:=0) (by simp at hc;omega)) Lb ?_;refine F6 (X5 rfl rfl) (fun hc=>a3E S1 rfl rfl a1B Rr (Eg hc) (hy (by simp at hc;omega)) rfl rfl (Nat.succ_pos _)) Lb ?_;refine kA1 ?_;refine F6 (X5 rfl rfl) (fun hc=>M2 (Eg hc) Ek (by first | omega | (simp at hc;omega))) Lb ?_;refine a3D (X5 rfl rfl) (fun hc=>⟨Ef,(E4 (Eg hc) (Eg hc) (Eg hc) Ek),hcall hc⟩) (fun hc=>(hskip hc)) Lb ?_;refine kA1 ?_;refine zG (fun hc=>Q4 hc rfl rfl) ?_;refine kQ1 [0,2,3,5,9,82] ?_;refine wc (fun c82=>?_) fun c82=>?_
 have d82:((p.sp.cs&&decide (d+2 > 32))||(decide ((p.sp.bl.length:Int) > 0)&&!(a46 p.sp.bl (d+1) (left - 1)).1))=true:=c82;have hS1:(Z9 p.sp d (left - 1)).1=false:=by
  rw[hS];split
  ·rfl
  ·rename_i h2
   rw[show(p.sp.cs&&decide (d+2 > 32))=false by simpa using h2,Bool.false_or] at d82;simp only[Bool.and_eq_true,Bool.not_eq_true'] at d82;exact d82.2
 rw[hS1,if_neg (by decide)] at he;refine kQ1 [8] ?_;refine wT (ctR bc (Z9 p.sp d (left - 1)).2::h) ?_;exact⟨by rw[he,hS1],by rw[he]⟩;have d82:((p.sp.cs&&decide (d+2 > 32))||(decide ((p.sp.bl.length:Int) > 0)&&!(a46 p.sp.bl (d+1) (left - 1)).1))=false:=c82;simp only[Bool.or_eq_false_iff] at d82;have hSH:Z9 p.sp d (left - 1)=a46 p.sp.bl (d+1) (left - 1):=by rw[hS,if_neg (by rw[d82.1];decide)]
 have hS1:(Z9 p.sp d (left - 1)).1=true:=by
  rw[hSH];by_cases hb:0 < p.sp.bl.length
  ·have h9:=d82.2
   rw[show decide ((p.sp.bl.length:Int) > 0)=true by simp;omega,Bool.true_and] at h9;simpa using h9
  ·rw[hS0 hb]
 have hrb:0<=(Z9 p.sp d (left - 1)).2/\(Z9 p.sp d (left - 1)).2<=left - 1:=by
  rw[hSH] at hS1 ⊢;obtain⟨_,r1,r2⟩:=a7G hl0 hsl (fun x _ d pl q h0 h=>a7g x d pl q h0 h) hS1;omega
 rw[hS1,if_pos rfl] at he;refine WC.skip (C8 [(9,.int .i64 d)] (h'':=.pt b5 (.cells (prE p).toArray 46 (0,0))::ctR bc ((Z9 p.sp d (left - 1)).2)::h) ?_ Su Sb ⟨d,(Z9 p.sp d (left - 1)).2,⟨⟨by omega,by omega⟩,⟨by omega,by omega⟩,by rw[he,show(p.k==18)=true by rw[c52];rfl,Bool.and_true];rfl⟩,rfl,rfl⟩);exact Su;replace c52:=F7 c52;rw[if_neg c52,if_neg c48] at he;refine WC.skip (C8 [(9,.int .i64 (d+1))] (h'':=.pt b5 (.cells (prE p).toArray 46 (0,0))::ctR bc (left - 1)::h) ?_ Su Sb ⟨d+1,left - 1,⟨⟨by omega,by omega⟩,⟨by omega,by omega⟩,by rw[he,show(p.k==18)=false by simpa using c52,Bool.and_false];rfl⟩,rfl,rfl⟩);exact Su;rintro _ _ ⟨bl,q,⟨hbl,hq,hG1⟩,rfl,rfl⟩;refine B1 rfl ?_;refine kQ4 [0,2,3,5,9,84,85,86] ?_
 refine B0 [0,2,3,5,9,84,85] rfl (fun μ F' h'=>∃ i:Nat,∃ q:Int,((i<=p.ll.length/\(0<=q/\q<=2048))/\G=b6D p bl d (pl&&(p.k==18)) i q)/\p.ll.length - i=μ/\F'=[(86,.int .i64 i)]/\.pt b5 (.cells (prE p).toArray 46 (0,0))::ctR bc q::h=h') (p.ll.length - 0) [(86,.int .i64 0)] (h0:=.pt b5 (.cells (prE p).toArray 46 (0,0))::ctR bc q::h) ?_ Sb ⟨0,q,⟨⟨by omega,hq⟩,hG1⟩,rfl,rfl,rfl⟩ ?_;exact Su;rintro _ _ _ ⟨i,q,⟨⟨hk,hq⟩,hJ⟩,rfl,rfl,rfl⟩;refine B1 rfl ?_;refine kQ1 [0,2,3,5,9,84,85,86,87] ?_;refine wc (fun c87=>?_) fun c87=>?_
 replace c87:=dT c87;obtain⟨x,hx⟩:=A5 (l:=p.ll) (k:=i) (by omega);have hxm:=List.mem_of_getElem? hx;have hL:X3 (p.ll.drop i) bl (pl&&(p.k==18)) q=if (J8 x bl (pl&&(p.k==18)) q).1 then X3 (p.ll.drop (i+1)) bl (pl&&(p.k==18)) (J8 x bl (pl&&(p.k==18)) q).2 else J8 x bl (pl&&(p.k==18)) q:=by rw[W2 hx];rfl
 unfold b6D at hJ;rw[hL] at hJ;refine kQ0 [0,2,3,5,9,84,85,86] ?_;refine kA2 ?_;refine xW fun b11=>?_
 refine kQ1 [0,2,3,5,9,11,84,85,86] ?_;refine kA9 ?_;refine xg (E4 Et Et Et Et) (CT.perm (List.perm_middle (l₁:=[_,_])) (ih x (In.l hxm) (.pt b11 (.cells (prE x).toArray 46 (0,0))::.pt b5 (.cells (prE p).toArray 46 (0,0))::h) bc bl q (pl&&(p.k==18)) ((hP.sub (In.l hxm)).mono Sb) hbl hq) (List.perm_middle (l₁:=[_,_])).symm) ?_;rintro _ _ ⟨rfl,rfl⟩;refine kQ1 [0,2,3,5,9,84,85,86,100] ?_;refine wc (fun c100=>?_) fun c100=>?_
 have hc0:(J8 x bl (pl&&(p.k==18)) q).1=false:=by simpa using c100
 simp only[hc0,Bool.false_eq_true,if_false] at hJ;refine kQ1 [8] ?_;refine wT (ctR bc (J8 x bl (pl&&(p.k==18)) q).2::h) ?_;exact⟨by rw[hJ,hc0],by rw[hJ]⟩;have hc0:(J8 x bl (pl&&(p.k==18)) q).1=true:=by simpa using c100
 rw[hc0,if_pos rfl] at hJ;have hrg:=b0g hq.1 hc0;refine kQ0 [0,2,3,5,9,84,85,86] ?_;refine kA2 ?_;refine WL.nil (A4 (p.ll.length - (i+1)) [(86,.int .i64 (i+1))] (h'':=.pt b5 (.cells (prE p).toArray 46 (0,0))::ctR bc ((J8 x bl (pl&&(p.k==18)) q).2)::h) (by omega) ?_ Su Sb ⟨i+1,(J8 x bl (pl&&(p.k==18)) q).2,⟨⟨by omega,⟨by omega,by omega⟩⟩,hJ⟩,rfl,rfl,rfl⟩);exact Su;replace c87:=dF c87;have hJ:G=a1T (p.gl.drop 0) (d+2) q:=by
  rw[hJ];unfold b6D;rw[show p.ll.drop i=[] from List.drop_eq_nil_of_le (by omega)];rfl
 refine kQ0 [0,2,5] ?_;refine kQ4 [0,2,103,104,105] ?_;refine B0 [0,2,103,104] rfl (fun μ F' h'=>∃ i:Nat,∃ q:Int,((i<=p.gl.length/\(0<=q/\q<=2048))/\G=a1T (p.gl.drop i) (d+2) q)/\p.gl.length - i=μ/\F'=[(105,.int .i64 i)]/\.pt b5 (.cells (prE p).toArray 46 (0,0))::ctR bc q::h=h') (p.gl.length - 0) [(105,.int .i64 0)] (h0:=.pt b5 (.cells (prE p).toArray 46 (0,0))::ctR bc q::h) ?_ Sb ⟨0,q,⟨⟨by omega,hq⟩,hJ⟩,rfl,rfl,rfl⟩ ?_;exact Su;rintro _ _ _ ⟨i,q,⟨⟨hk,hq⟩,hJ⟩,rfl,rfl,rfl⟩;refine B1 rfl ?_;refine kQ1 [0,2,103,104,105,106] ?_;refine wc (fun c106=>?_) fun c106=>?_
 replace c106:=dT c106;obtain⟨g,hgx⟩:=A5 (l:=p.gl) (k:=i) (by omega);have hgm:=List.mem_of_getElem? hgx;have hgv:=b3k (hV.gs g hgm).1;obtain⟨x,hx⟩:=A5 (l:=g.bl) (k:=0) (by have:=hgv.body;omega);have hxi:In x p:=In.g hgm (List.mem_of_getElem? hx);have hx1:0 < g.bl.length:=(List.getElem?_eq_some_iff.1 hx).1;have hgb:=(hO.gs g hgm).b;have hGG:a1T (p.gl.drop i) (d+2) q=if (J8 x (d+2) false q).1 then a1T (p.gl.drop (i+1)) (d+2) (J8 x (d+2) false q).2 else J8 x (d+2) false q:=by
  rw[W2 hgx,<- b3L hx,<- a5i];rfl
 rw[hGG] at hJ;refine kQ0 [0,2,103,104,105] ?_;refine kA2 ?_;refine xW fun b13=>?_
 refine kQ1 [0,2,13,103,104,105] ?_;refine kA3 ?_;refine xG (G1 Z8.und Z8.size Z8.posz (Ev.tmp rfl) Ek Rr rfl (q:=0) (by omega)) ?_;refine kA3 ?_;refine xg (E4 Et Et Et Ek) (CT.perm (List.perm_middle (l₁:=[_,_])) (ih x hxi (.pt b13 (.cells (guE g).toArray 102 (0,0))::.pt b5 (.cells (prE p).toArray 46 (0,0))::h) bc (d+2) q false ((hP.sub hxi).mono Sb) ⟨by omega,by omega⟩ hq) (List.perm_middle (l₁:=[_,_])).symm) ?_;rintro _ _ ⟨rfl,rfl⟩;refine kQ1 [0,2,103,104,105,117] ?_;refine wc (fun c117=>?_) fun c117=>?_
 have hc0:(J8 x (d+2) false q).1=false:=by simpa using c117
 rw[hc0,if_neg (by decide)] at hJ;refine kQ1 [8] ?_;refine wT (ctR bc (J8 x (d+2) false q).2::h) ?_;exact⟨by rw[hJ,hc0],by rw[hJ]⟩;have hc0:(J8 x (d+2) false q).1=true:=by simpa using c117
 rw[hc0,if_pos rfl] at hJ;have hrg:=b0g hq.1 hc0;refine kQ0 [0,2,103,104,105] ?_;refine kA2 ?_;refine WL.nil (A4 (p.gl.length - (i+1)) [(105,.int .i64 (i+1))] (h'':=.pt b5 (.cells (prE p).toArray 46 (0,0))::ctR bc ((J8 x (d+2) false q).2)::h) (by omega) ?_ Su Sb ⟨i+1,(J8 x (d+2) false q).2,⟨⟨by omega,⟨by omega,by omega⟩⟩,hJ⟩,rfl,rfl,rfl⟩);exact Su;replace c106:=dF c106;have hJ:G=(true,q):=by rw[hJ,show p.gl.drop i=[] from List.drop_eq_nil_of_le (by omega)];rfl
 refine kQ0 [] ?_;refine kQ1 [8] ?_;refine wT (ctR bc q::h) ?_;exact⟨by rw[hJ],by rw[hJ]⟩
theorem a9X {m:View} {h:List Res} (hg:Glob m) (p:Pr) (hP:POk m h p):CT Tryz.prog 16 [prV p] h m (A3 h (.bool (mayP p))):=by
 refine CT.body Tryz.call16 Tryz.func16 rfl Tryz.ntmps16 Lb rfl ?_;refine j0 ?_;refine xX fun b1=>?_
 refine kQ1 [1] ?_;refine kA1 ?_;refine xX fun b5=>?_
 refine kQ1 [1,3] ?_;refine kA2 ?_;refine xg (E4 Et Et Ek Ek) (b7X hg p (.pt b1 (.cells (prE p).toArray 46 (0,0))::h) b5 0 2048 true (hP.mono Sb) ⟨by omega,by omega⟩ ⟨by omega,by omega⟩) ?_;rintro _ _ ⟨rfl,rfl⟩;refine kQ1 [2] ?_;refine wT h ?_;exact⟨rfl,rfl⟩
end
section
open Go.Eng Go.Pc Go.Sx Go
open Go.Xp hiding B D5
open Go.Ty (Ty Vr Tok eqT tyV I4 B2 B4 R1 zeroK)
abbrev wrV (e:Int):Value:=.iface 88 (.agg #[.int .i64 e])
abbrev lnR (b:Nat) (a:Option Addr) (n c:Nat):Res:=.pt b (.cells [.slice a n c].toArray 123 (0,0))
structure Tk2 (m:View) (h:List Res) (a:Option Addr) (c:Nat) (ts:List Tok):Prop where
 k:Tks m h a c ts
 n:∀ t ∈ ts,-2147483648<=t.n/\t.n<=2147483647
theorem Tk2.mono {m:View} {h h':List Res} {a:Option Addr} {c:Nat} {ts:List Tok} (q:Tk2 m h a c ts) (s:h.Sublist h'):Tk2 m h' a c ts:=⟨q.k.mono s,q.n⟩
theorem Tk2.drop {m:View} {h:List Res} {a:Option Addr} {c:Nat} {ts:List Tok} (q:Tk2 m h a c ts) {i:Nat} (hi:i<=ts.length):Tk2 m h (sl1 a i c 4) (c - i) (ts.drop i):=
 ⟨⟨by rw[List.length_drop];exact q.k.rd.dropF B4 (by decide) hi,by have:=q.k.le;rw[List.length_drop];omega,fun t ht=>q.k.tx t (List.mem_of_mem_drop ht)⟩,fun t ht=>q.n t (List.mem_of_mem_drop ht)⟩
theorem Tk2.tail {m:View} {h:List Res} {a:Option Addr} {c:Nat} {ts:List Tok} (q:Tk2 m h a c ts) (hi:0 < ts.length):Tk2 m h (sl1 a 1 c 4) (c - 1) ts.tail:=by
 rw[<- List.drop_one];exact q.drop hi
theorem Tk2.ok {m:View} {h:List Res} {a:Option Addr} {c:Nat} {ts:List Tok} (q:Tk2 m h a c ts):Go.Ty.TkOk ts:=fun x hx=>⟨q.n x hx,Nat.le_trans (q.k.tx x hx) (by decide)⟩
abbrev LnR {α:Type} (m:View) (hT h:List Res) (b:Nat) (M:E α) (O:α->Value->List Res->Prop) (v:Value) (h':List Res):Prop:=
 ∃ (x:α) (r:List Tok) (a:Option Addr) (c:Nat) (bl:List Res),M=.ok (x,r)/\O x v bl/\Tk2 m hT a c r/\h'=lnR b a r.length c::(bl++h)
abbrev LnE {α:Type} (h:List Res) (M:E α) (v:Value) (h':List Res):Prop:=∃ e,M=.error e/\v=wrV e/\h'=h
abbrev LnX {α:Type} (m:View) (f:FuncId) (args:List Value) (b:Nat) (a:Option Addr) (c:Nat) (ts:List Tok) (hT h:List Res) (M:E α) (O:α->Value->List Res->Prop):Prop:=
 CX Tryz.prog f args (lnR b a ts.length c::h) m (fun v _ h'=>LnR m hT h b M O v h') (fun v h'=>LnE h M v h')
abbrev LnV {α:Type} (m:View) (hT h:List Res) (b:Nat) (M:E α) (W:α->Value->Prop) (v:Value) (h':List Res):Prop:=
 ∃ (x:α) (r:List Tok) (a:Option Addr) (c:Nat),M=.ok (x,r)/\W x v/\Tk2 m hT a c r/\h'=lnR b a r.length c::h
abbrev LnY {α:Type} (m:View) (f:FuncId) (args:List Value) (b:Nat) (a:Option Addr) (c:Nat) (ts:List Tok) (hT h:List Res) (M:E α) (W:α->Value->Prop):Prop:=
 CX Tryz.prog f args (lnR b a ts.length c::h) m (fun v _ h'=>LnV m hT h b M W v h') (fun v h'=>LnE h M v h')
abbrev WN (s:B) (v:Value):Prop:=v=str s/\s.length<=Big
abbrev WT (x:Ty) (v:Value):Prop:=v=tyV x/\TyW x
abbrev WI (k:Int) (v:Value):Prop:=v=.int .u8 k/\0<=k/\k<=255
abbrev WF (f:Fo) (v:Value):Prop:=v=foV f/\FoW f
abbrev OE (m:View) (x:Ex) (v:Value) (bl:List Res):Prop:=∃ t,v=exV t/\B8 t=x/\EOk m bl t
abbrev OR (m:View) (x:Rp) (v:Value) (bl:List Res):Prop:=∃ r,v=rpV r/\stR r=x/\r.name.length<=Big/\EOk m bl r.base/\EOk m bl r.count
theorem lnP {α:Type} (fn:Func) {n:Cx} {F:Fm} {H h:List Res} {m:View} {R:Value->View->List Res->Prop} {M:E α} {e:Int} (hq:M=.error e) (hd:h.Sublist H) (hds:n.ds=[]:=by rfl) :
 ∀ a w,Fr n F a->St m H w->bodyPost Tryz.prog fn (RX m R (fun v h'=>LnE h M v h')) (.panic [{ v:=wrV e,recovered:=false }]) a w:=a1d h Vl hd ⟨e,hq,rfl,rfl⟩ hds
inductive Mv (bl:List Res):List Res->List Res->Prop
 | stop {h:List Res}:Mv bl h (bl++h)
 | cons {x:Res} {s d:List Res} (q:Mv bl s d):Mv bl (x::s) (x::d)
theorem Mv.perm {bl s d:List Res} (q:Mv bl s d:=by repeat (first | apply Mv.cons | exact Mv.stop)):(bl++s).Perm d:=by
 induction q with
 | stop=>exact List.Perm.refl _
 | cons _ ih=>exact List.perm_middle.trans (ih.cons _)
theorem E6 (m:View) (h:List Res):EOk m h A2:=⟨a7V m h,.mk (by decide) (by decide) (by decide) (by decide) (Nat.zero_le _) fun _ hx=>(List.not_mem_nil hx).elim⟩
theorem G6 {b:Bool} (h:b=false):¬ (b=true):=by rw[h];decide
theorem H3 {α β:Type} (x:α) (ts:List Tok) (f:α->List Tok->E β):O2 (.ok (x,ts)) f=f x ts:=rfl
theorem a2S {β:Type} {k:Int} {s:B} {ts:List Tok} {f:List Tok->E β} (h:isM k s ts=true):X6 k s ts f=f ts.tail:=by unfold X6;rw[h];rfl
theorem a3m {β:Type} {k:Int} {s:B} {ts:List Tok} {f:List Tok->E β} (h:isM k s ts=false):X6 k s ts f=.error 110:=by unfold X6;rw[h];rfl
theorem b4K (ts:List Tok):(ts.headD zeroK)=ts.getD 0 zeroK:=by cases ts <;> rfl
theorem c2A (k:Int) (s:B) (ts:List Tok):isM k s ts=((decide ((ts.length:Int) > 0)&&((ts.getD 0 zeroK).kind==k))&&((ts.getD 0 zeroK).text==s)):=by
 cases ts with
 | nil=>rfl
 | cons t r=>
  have h1:decide (((t::r).length:Int) > 0)=true:=decide_eq_true (by simp only[List.length_cons];omega);rw[h1];rfl
theorem J5 (s:B) (h:List Res) (m:View):CT Tryz.prog 74 [str s] h m (A3 h (R1 ⟨2,0,s,0⟩)):=by
 refine CT.body Tryz.call74 Tryz.func74 rfl Tryz.ntmps74 Lb rfl ?_;refine j0 ?_;refine xW fun b2=>?_
 refine kQ0 [0,2] ?_;refine kQ3 [2] ?_;refine WC.ret (a7p (h':=h) (.inl rfl) rfl (I1 H2 rfl rfl rfl Me rfl) Vl Sb ?_);exact⟨rfl,rfl⟩
theorem G5 (s:B) (h:List Res) (m:View):CT Tryz.prog 81 [str s] h m (A3 h (R1 ⟨5,0,s,0⟩)):=by
 refine CT.body Tryz.call81 Tryz.func81 rfl Tryz.ntmps81 Lb rfl ?_;refine j0 ?_;refine xW fun b2=>?_
 refine kQ0 [0,2] ?_;refine kQ3 [2] ?_;refine WC.ret (a7p (h':=h) (.inl rfl) rfl (I1 H2 rfl rfl rfl Me rfl) Vl Sb ?_);exact⟨rfl,rfl⟩
theorem H8 (h:List Res) (m:View):CX Tryz.prog 31 [] h m (fun _ _ _=>False) (fun v h'=>v=wrV 110/\h'=h):=by
 refine CX.body Tryz.call31 Tryz.func31 rfl Tryz.ntmps31 Lb rfl ?_;refine kA1 ?_;refine xG (U2 c0F Et) ?_;refine WL.panic Et (a1d (P:=Tryz.prog) (fn:=Tryz.f31) (h) Vl Sb ?_);exact⟨rfl,rfl⟩
theorem a1Z (b:Nat) (a:Option Addr) (c:Nat) (ts:List Tok) (u:Tok) (h hT:List Res) {m:View} (hb:lnR b a ts.length c ∈ h) (hk:Tk2 m hT a c ts) (hs:hT.Sublist h) :
 CT Tryz.prog 85 [ptV b,R1 u] h m (A3 h (.bool (isM u.kind u.text ts))):=by
 have hrd:=(hk.mono hs).k.rd;obtain⟨t,ht⟩:∃ t,t=ts.getD 0 zeroK:=⟨_,rfl⟩;have hel:0 < ts.length->ts[0]?=some t:=fun hq=>by rw[ht,List.getD_eq_getElem?_getD,List.getElem?_eq_getElem hq];rfl
 refine CT.body Tryz.call85 Tryz.func85 rfl Tryz.ntmps85 Lb rfl ?_;refine j0 ?_;refine xX fun b3=>?_
 refine kQ1 [0,3] ?_;refine dS [] (.op 0 (.op 1 (.op 2 (.op 3 (.op 4 (.op 5 (.op 6 (.op 7 (.op 8 (.op 9 (.op 10 (.op 11 (.op 12 (.op 13 (.op 14 (.op 15 (.op 16 (.op 17 (.op 18 (.op 19 (.op 20 (.op 21 (.op 22 (.op 23 (.op 24 (.op 25 (.op 26 (.op 27 .nil)))))))))))))))))))))))))))) [28,29,30] D6 ?_;refine kA3 ?_;refine yG rfl (D0 Z0 rfl Et (List.mem_cons_of_mem _ hb) rfl) ?_;refine yG rfl (S4 Z0 Et) ?_;refine yG rfl (O0 Et Ek rfl) ?_;refine kA1 ?_;refine B6 rfl rfl (GU.t rfl rfl) (fun hc=>PO.move Et) Lb ?_;refine B6 rfl rfl (GU.t rfl rfl) (fun hc=>PO.nilCheck (Eg hc)) Lb ?_;refine B6 rfl rfl (GU.t rfl rfl) (fun hc=>PO.fieldAddr b7x rfl (Nat.ne_of_beq_eq_false rfl) (Eg hc)) Lb ?_;refine B6 rfl rfl (GU.t rfl rfl) (fun hc=>D0 Z0 rfl (Eg hc) (List.mem_cons_of_mem _ hb) rfl) Lb ?_
 refine B6 rfl rfl (GU.t rfl rfl) (fun hc=>G1 A6.und A6.size A6.posz (Eg hc) Ek Rr rfl (q:=0) (by simp at hc;omega)) Lb ?_;refine B6 rfl rfl (GU.t rfl rfl) (fun hc=>H4 H2 rfl (Nat.ne_of_beq_eq_false rfl) B4 (Nat.succ_pos _) Rr (hel (by simp at hc;omega)) (Eg hc)) Lb ?_;refine B6 rfl rfl (GU.t rfl rfl) (fun hc=>H5 a5P rfl B4 Rr (Eg hc) (hel (by simp at hc;omega)) rfl) Lb ?_;refine kA2 ?_;refine B6 rfl rfl (GU.t rfl rfl) (fun hc=>O0 (Eg hc) (Eg hc) rfl) Lb ?_;refine kA2 ?_;refine B6 rfl rfl (GU.t rfl rfl) (fun hc=>PO.move Et) Lb ?_;refine B6 rfl rfl (GU.t rfl rfl) (fun hc=>PO.nilCheck (Eg hc)) Lb ?_;refine B6 rfl rfl (GU.t rfl rfl) (fun hc=>PO.fieldAddr b7x rfl (Nat.ne_of_beq_eq_false rfl) (Eg hc)) Lb ?_;refine B6 rfl rfl (GU.t rfl rfl) (fun hc=>D0 Z0 rfl (Eg hc) (List.mem_cons_of_mem _ hb) rfl) Lb ?_
 refine B6 rfl rfl (GU.t rfl rfl) (fun hc=>G1 A6.und A6.size A6.posz (Eg hc) Ek Rr rfl (q:=0) (by simp at hc;omega)) Lb ?_;refine B6 rfl rfl (GU.t rfl rfl) (fun hc=>H4 H2 rfl (Nat.ne_of_beq_eq_false rfl) B4 (Nat.succ_pos _) Rr (hel (by simp at hc;omega)) (Eg hc)) Lb ?_;refine B6 rfl rfl (GU.t rfl rfl) (fun hc=>H5 uu9 rfl B4 Rr (Eg hc) (hel (by simp at hc;omega)) rfl) Lb ?_;refine kA2 ?_;refine SR.nil rfl rfl ?_;refine zG (fun hc=>M6 (Eg hc) (Eg hc)) ?_;refine kQ2 [4] ?_;refine wT h ?_;exact⟨by rw[c2A,<- ht],rfl⟩
theorem K2 (b:Nat) (a:Option Addr) (c:Nat) (ts:List Tok) (u:Tok) (h hT:List Res) {m:View} (hk:Tk2 m hT a c ts) (hs:hT.Sublist h) :
 CT Tryz.prog 73 [ptV b,R1 u] (lnR b a ts.length c::h) m
  (fun v _ h'=>∃ a' c' r,v=.bool (isM u.kind u.text ts)/\r=(if isM u.kind u.text ts then ts.tail else ts)/\Tk2 m hT a' c' r/\h'=lnR b a' r.length c'::h):=by
 refine CT.body Tryz.call73 Tryz.func73 rfl Tryz.ntmps73 Lb rfl ?_;refine j0 ?_;refine xX fun b3=>?_
 refine kQ1 [0,3] ?_;refine kA2 ?_;refine xf (E2 Et Et) (a1Z b a c ts u _ hT Me hk (hs.trans Sb)) ?_;refine kQ1 [0,8] ?_;refine wc (fun c8=>?_) fun c8=>?_
 have d8:isM u.kind u.text ts=false:=by simpa using c8
 refine kQ1 [4] ?_;refine wT (lnR b a ts.length c::h) ?_;exact⟨a,c,ts,by rw[d8],by rw[d8];rfl,hk,rfl⟩;have d8:isM u.kind u.text ts=true:=by simpa using c8
 have hp:=b99 d8;refine kQ0 [0] ?_;refine kA5 ?_;refine xG (a0c A6.und A6.size Et Ek (l:=1) rfl (by omega)) ?_;refine kQ3 [] ?_;refine kQ1 [4] ?_;refine wT (lnR b (sl1 a 1 c 4) (ts.length - 1) (c - 1)::h) ?_;exact⟨_,_,ts.tail,by rw[d8],by rw[d8];rfl,hk.tail hp,by rw[List.length_tail]⟩
theorem M9 (b:Nat) (a:Option Addr) (c:Nat) (ts:List Tok) (u:Tok) (a1:Option Addr) (c1:Nat) (h hT:List Res) {m:View} (hk:Tk2 m hT a c ts) (hs:hT.Sublist h) (hu:Rd m h a1 1 c1 4 (fl B2 [u])) :
 CX Tryz.prog 83 [ptV b,.slice a1 1 c1] (lnR b a ts.length c::h) m
  (fun _ _ h'=>isM u.kind u.text ts=true/\∃ a' c',Tk2 m hT a' c' ts.tail/\h'=lnR b a' ts.tail.length c'::h) (fun v h'=>isM u.kind u.text ts=false/\v=wrV 110/\h'=h):=by
 refine CX.body Tryz.call83 Tryz.func83 rfl Tryz.ntmps83 Lb rfl ?_;refine kQ3 [0,6,7,8] ?_;refine B0 [0,6,7] rfl (fun μ F' h'=>∃ j:Nat,∃ x:Option Addr,∃ y:Nat,∃ r:List Tok,(Tk2 m hT x y r/\((j=0/\r=ts)\/(j=1/\isM u.kind u.text ts=true/\r=ts.tail)))/\1 - j=μ/\F'=[(8,.int .i64 j)]/\lnR b x r.length y::h=h') (1 - 0) [(8,.int .i64 0)] (h0:=lnR b a ts.length c::h) ?_ Sb ⟨0,a,c,ts,⟨hk,.inl ⟨rfl,rfl⟩⟩,rfl,rfl,rfl⟩ ?_;exact Su;rintro _ _ _ ⟨j,x,y,r,⟨hk1,hJ⟩,rfl,rfl,rfl⟩;refine B1 rfl ?_;refine kQ1 [0,6,7,8,9] ?_;refine wc (fun c9=>?_) fun c9=>?_
 replace c9:=dT c9;have hj:j=0/\r=ts:=by rcases hJ with hJ | hJ <;> first | exact hJ | (exfalso;have:=hJ.1;omega)
 obtain⟨rfl,rfl⟩:=hj;have hx:([u]:List Tok)[0]?=some u:=rfl;refine kQ0 [0,6,7,8] ?_;refine kA2 ?_;refine xW fun b5=>?_
 refine kQ1 [0,5,6,7,8] ?_;refine kA2 ?_;refine pD (lnR b x r.length y) ?_;refine xg (E2 Et Et) (K2 b x y r u _ hT hk1 (hs.trans Sb)) ?_;rintro _ _ ⟨a2,c2,r2,rfl,hr2,hk2,rfl⟩;refine kQ1 [0,6,7,8,15] ?_;refine wc (fun c15=>?_) fun c15=>?_
 have d15:isM u.kind u.text r=false:=by simpa using c15
 refine j0 ?_;refine A0 Ef Evs.nil (H8 _ _) Lb (fun v hv hx=>?_) fun v16 h16 hr16=>?_
 ·obtain⟨rfl,rfl⟩:=hx
  exact a1d (P:=Tryz.prog) (fn:=Tryz.f83) h Vl Sb ⟨d15,rfl,rfl⟩
 exact hr16.elim;have d15:isM u.kind u.text r=true:=by simpa using c15
 rw[d15,if_pos rfl] at hr2;refine kQ0 [0,6,7,8] ?_;refine kA2 ?_;refine WL.nil (A4 (1 - 1) [(8,.int .i64 1)] (h'':=lnR b a2 r2.length c2::h) (by omega) ?_ Su Sb ⟨1,a2,c2,r2,⟨hk2,.inr ⟨rfl,d15,hr2⟩⟩,rfl,rfl,rfl⟩);exact Su;replace c9:=dF c9;have hj:isM u.kind u.text ts=true/\r=ts.tail:=by rcases hJ with hJ | hJ <;> first | exact hJ.2 | (exfalso;have:=hJ.1;omega)
 obtain⟨h1,rfl⟩:=hj;refine WC.exit (toX (.inr rfl) (a9h (h':=lnR b x ts.tail.length y::h) (.inr rfl) rfl  Vl Sb ?_));exact⟨h1,x,y,hk1,rfl⟩
theorem c3B {ts:List Tok} {t:Tok} (ht:t=ts.getD 0 zeroK) (h:(((ts.length:Int)==0)||(t.kind != 1))=true):t.kind≠1:=by
 simp only[Bool.or_eq_true,beq_iff_eq,bne_iff_ne,ne_eq] at h;rcases h with h1 | h1
 ·have h2:ts=[]:=List.eq_nil_of_length_eq_zero (by omega)
  rw[ht,h2];decide
 ·exact h1
theorem c2W {ts:List Tok} {t:Tok} (h:(((ts.length:Int)==0)||(t.kind != 1))=false):0 < ts.length/\t.kind=1:=by
 simp only[Bool.or_eq_false_iff,beq_eq_false_iff_ne,bne_eq_false_iff_eq,ne_eq] at h;exact⟨by omega,h.2⟩
theorem a5D {n:Nat} (h:(!((n:Int)==0))=true):0 < n:=by simp at h;omega
theorem a0F (b:Nat) (a:Option Addr) (c:Nat) (ts:List Tok) (h hT:List Res) {m:View} (hk:Tk2 m hT a c ts) (hs:hT.Sublist h):LnY m 75 [ptV b] b a c ts hT h (U6 ts) WN:=by
 have hrd:=(hk.mono hs).k.rd;have hq:=b0r ts;obtain⟨t,ht⟩:∃ t,t=ts.getD 0 zeroK:=⟨_,rfl⟩;have hel:0 < ts.length->ts[0]?=some t:=fun hq=>by rw[ht,List.getD_eq_getElem?_getD,List.getElem?_eq_getElem hq];rfl
 rw[<- ht] at hq;refine CX.body Tryz.call75 Tryz.func75 rfl Tryz.ntmps75 Lb rfl ?_;refine kQ1 [0] ?_;refine kA8 ?_;refine zG (fun hc=>PO.nilCheck (Eg hc)) ?_;refine kA2 ?_;refine zG (fun hc=>G1 A6.und A6.size A6.posz (Eg hc) Ek Rr rfl (q:=0) (a5D hc)) ?_;refine zG (fun hc=>H4 H2 rfl (Nat.ne_of_beq_eq_false rfl) B4 (Nat.succ_pos _) Rr (hel (a5D hc)) (Eg hc)) ?_;refine zG (fun hc=>H5 a5P rfl B4 Rr (Eg hc) (hel (a5D hc)) rfl) ?_;refine kQ2 [0,19] ?_;refine wc (fun c19=>?_) fun c19=>?_
 have d19:=c3B ht c19;rw[if_neg d19] at hq;refine j0 ?_;refine A0 Ef Evs.nil (H8 _ _) Lb (fun v hv hx=>?_) fun v20 h20 hr20=>?_
 ·obtain⟨rfl,rfl⟩:=hx;exact lnP Tryz.f75 hq Sb
 exact hr20.elim;have d19:=c2W c19;have hel:=hel d19.1;have htx:=hk.k.tx t (List.mem_of_getElem? hel);have hp:=d19.1;rw[if_pos d19.2] at hq;refine kQ0 [0] ?_;refine kA4 ?_;refine xG (G1 A6.und A6.size A6.posz (Ev.tmp rfl) Ek Rr rfl (q:=0) (by omega)) ?_;refine kQ3 [0,3] ?_;refine kA5 ?_;refine xG (a0c A6.und A6.size Et Ek (l:=1) rfl (by omega)) ?_;refine kQ3 [3] ?_;refine kQ2 [2] ?_;refine xT (lnR b (sl1 a 1 c 4) (ts.length - 1) (c - 1)::h) ?_;exact⟨_,_,_,_,hq,⟨rfl,htx⟩,hk.tail d19.1,by rw[List.length_tail]⟩
theorem R8 {m:View} (hg:Glob m) (b:Nat) (a:Option Addr) (c:Nat) (ts:List Tok) (h hT:List Res) (hk:Tk2 m hT a c ts) (hs:hT.Sublist h):LnX m 84 [ptV b] b a c ts hT h (L6 ts) (OE m):=by
 have hq:=b0v ts;have hle:=b0R (ts:=ts);refine CX.body Tryz.call84 Tryz.func84 rfl Tryz.ntmps84 Lb rfl ?_;refine j0 ?_;refine xW fun b2=>?_
 refine kQ0 [0,2] ?_;refine kA4 ?_;refine xg (E1 Et) (a8I hg a c ts _ (hk.k.mono (hs.trans Sb)) hk.n) ?_;rintro _ _ ⟨t11,bl,rfl,⟨hst,hU,hW⟩,rfl⟩;refine WL.perm (Mv.perm) ?_;refine kA4 ?_;refine xW fun b3=>?_
 refine kQ3 [0,2,3,4,5] ?_;refine kQ2 [0,2,3,4,16] ?_;refine wc (fun c16=>?_) fun c16=>?_
 replace c16:=a1i c16;rw[if_neg c16] at hq;refine j0 ?_;refine A0 Ef Evs.nil (H8 _ _) Lb (fun v hv hx=>?_) fun v17 h17 hr17=>?_
 ·obtain⟨rfl,rfl⟩:=hx;exact lnP Tryz.f84 hq Sb
 exact hr17.elim;replace c16:=a0U c16;rw[if_pos c16] at hq;refine kQ0 [0,2,3,4] ?_;refine kA6 ?_;refine xG (a0c A6.und A6.size Et Et rfl (by omega)) ?_;refine kQ3 [2,3] ?_;refine kQ2 [2] ?_;refine xT (lnR b (sl1 a (Y3 ts) c 4) (ts.length - Y3 ts) (c - Y3 ts)::(bl++h)) (h1:=cA a1t) ?_;exact⟨_,ts.drop (Y3 ts),_,_,bl,hq,⟨t11,rfl,hst,hU,hW⟩,hk.drop hle,by rw[List.length_drop]⟩
theorem a0e {m:View} (hg:Glob m) (b:Nat) (a:Option Addr) (c:Nat) (ts:List Tok) (h hT:List Res) (hk:Tk2 m hT a c ts) (hs:hT.Sublist h):LnX m 87 [ptV b] b a c ts hT h (K6 ts) (OE m):=by
 have hrd:=(hk.mono hs).k.rd;obtain⟨t,ht⟩:∃ t,t=ts.getD 0 zeroK:=⟨_,rfl⟩;have hel:0 < ts.length->ts[0]?=some t:=fun hq=>by rw[ht,List.getD_eq_getElem?_getD,List.getElem?_eq_getElem hq];rfl
 have hq:=a6b ts;rw[<- ht] at hq;refine CX.body Tryz.call87 Tryz.func87 rfl Tryz.ntmps87 Lb rfl ?_;refine j0 ?_;refine xW fun b2=>?_
 refine kQ0 [0,2] ?_;refine kA8 ?_;refine zG (fun hc=>PO.nilCheck (Eg hc)) ?_;refine kA2 ?_;refine zG (fun hc=>G1 A6.und A6.size A6.posz (Eg hc) Ek Rr rfl (q:=0) (a5D hc)) ?_;refine zG (fun hc=>H4 H2 rfl (Nat.ne_of_beq_eq_false rfl) B4 (Nat.succ_pos _) Rr (hel (a5D hc)) (Eg hc)) ?_;refine zG (fun hc=>H5 a5P rfl B4 Rr (Eg hc) (hel (a5D hc)) rfl) ?_;refine kQ2 [0,2,19] ?_;refine wc (fun c19=>?_) fun c19=>?_
 have d19:=c3B ht c19;rw[if_neg d19] at hq;refine j0 ?_;refine A0 Ef Evs.nil (H8 _ _) Lb (fun v hv hx=>?_) fun v20 h20 hr20=>?_
 ·obtain⟨rfl,rfl⟩:=hx;exact lnP Tryz.f87 hq Sb
 exact hr20.elim;have d19:=c2W c19;rw[if_pos d19.2] at hq;refine kQ0 [0,2] ?_;refine kA1 ?_;refine pD (lnR b a ts.length c) ?_;refine A0 Ef (E1 Et) (R8 hg b a c ts _ _ hk (hs.trans Sb)) Lb (fun v hv hx=>?_) fun v22 h22 hr22=>?_
 ·obtain⟨e,hx1,rfl,rfl⟩:=hx;rw[hx1] at hq;exact lnP Tryz.f87 hq Sb
 obtain⟨x22,r22,a22,u22,bl22,hM22,⟨t22,rfl,rfl,hO22⟩,hk22,rfl⟩:=hr22;refine WL.perm ((Mv.perm).cons _) ?_;rw[hM22,H3] at hq;refine xW fun b3=>?_
 refine kQ1 [2,3] ?_;refine kA1 ?_;refine xf (E1 Et) (a3I hg t22 (hO22.mono Sb)) ?_;refine kQ1 [2,3,25] ?_;refine wc (fun c25=>?_) fun c25=>?_
 have d25:N7 (B8 t22)=false:=by rw[X2];simpa using c25
 rw[if_neg (G6 d25)] at hq;refine j0 ?_;refine A0 Ef Evs.nil (H8 _ _) Lb (fun v hv hx=>?_) fun v26 h26 hr26=>?_
 ·obtain⟨rfl,rfl⟩:=hx;exact lnP Tryz.f87 hq Sb
 exact hr26.elim;have d25:N7 (B8 t22)=true:=by rw[X2];simpa using c25
 rw[if_pos d25] at hq;refine kQ0 [2,3] ?_;refine kQ2 [2] ?_;refine xT (lnR b a22 r22.length u22::(bl22++h)) (h1:=cA a1t) ?_;exact⟨_,_,_,_,bl22,hq,⟨t22,rfl,rfl,hO22⟩,hk22,rfl⟩
theorem a9I {m:View} (hg:Glob m) (b:Nat) (a:Option Addr) (c:Nat) (ts:List Tok) (h hT:List Res) (hk:Tk2 m hT a c ts) (hs:hT.Sublist h):LnY m 82 [ptV b] b a c ts hT h (a6G ts) WT:=by
 have hq:a6G ts=if (Go.Ty.front ts).2.2=0 then .ok ((Go.Ty.front ts).1,ts.drop (Go.Ty.front ts).2.1) else .error 110:=rfl
 have hle:=c1H ts;refine CX.body Tryz.call82 Tryz.func82 rfl Tryz.ntmps82 Lb rfl ?_;refine j0 ?_;refine xW fun b2=>?_
 refine kQ0 [0,2] ?_;refine kA4 ?_;refine xf (E1 Et) (Ty9.front_ct a _ c ts _ _ hg (hk.k.mono (hs.trans Sb)).rd hk.ok) ?_;refine kA4 ?_;refine xW fun b3=>?_
 refine kQ3 [0,2,3,4,5] ?_;refine kQ2 [0,2,3,4,16] ?_;refine wc (fun c16=>?_) fun c16=>?_
 replace c16:=a1i c16;rw[if_neg c16] at hq;refine j0 ?_;refine A0 Ef Evs.nil (H8 _ _) Lb (fun v hv hx=>?_) fun v17 h17 hr17=>?_
 ·obtain⟨rfl,rfl⟩:=hx;exact lnP Tryz.f82 hq Sb
 exact hr17.elim;replace c16:=a0U c16;rw[if_pos c16] at hq;refine kQ0 [0,2,3,4] ?_;refine kA6 ?_;refine xG (a0c A6.und A6.size Et Et rfl (by omega)) ?_;refine kQ3 [2,3] ?_;refine kQ2 [2] ?_;refine xT (lnR b (sl1 a (Go.Ty.front ts).2.1 c 4) (ts.length - (Go.Ty.front ts).2.1) (c - (Go.Ty.front ts).2.1)::h) (h1:=cA a9m) ?_;exact⟨_,_,_,_,hq,⟨rfl,c3R ts⟩,hk.drop hle,by rw[List.length_drop]⟩
theorem b48 {m:View} (hg:Glob m) (b:Nat) (a:Option Addr) (c:Nat) (ts:List Tok) (h hT:List Res) (hk:Tk2 m hT a c ts) (hs:hT.Sublist h):LnY m 136 [ptV b] b a c ts hT h (a5b ts) WI:=by
 have hq:a5b ts=O2 (a6G ts) fun t r=>if a1A t then .ok (t.kind,r) else .error 110:=rfl
 refine CX.body Tryz.call136 Tryz.func136 rfl Tryz.ntmps136 Lb rfl ?_;refine kQ1 [0] ?_;refine kA1 ?_;refine pD (lnR b a ts.length c) ?_;refine A0 Ef (E1 Et) (a9I hg b a c ts _ _ hk (hs.trans Sb)) Lb (fun v hv hx=>?_) fun v5 h5 hr5=>?_
 ·obtain⟨e,hx1,rfl,rfl⟩:=hx;rw[hx1] at hq;exact lnP Tryz.f136 hq Sb
 obtain⟨x5,r5,a5,u5,hM5,⟨rfl,hw5⟩,hk5,rfl⟩:=hr5;rw[hM5,H3] at hq;refine xW fun b3=>?_
 refine kQ1 [3] ?_;refine kA1 ?_;refine xf (E1 Et) (a4U x5 _ _ hg (Nat.le_trans hw5.p (by decide))) ?_;refine kQ1 [3,8] ?_;refine wc (fun c8=>?_) fun c8=>?_
 have d8:a1A x5=false:=by simpa using c8
 rw[if_neg (G6 d8)] at hq;refine j0 ?_;refine A0 Ef Evs.nil (H8 _ _) Lb (fun v hv hx=>?_) fun v9 h9 hr9=>?_
 ·obtain⟨rfl,rfl⟩:=hx;exact lnP Tryz.f136 hq Sb
 exact hr9.elim;have d8:a1A x5=true:=by simpa using c8
 rw[if_pos d8] at hq;refine kQ0 [3] ?_;refine kQ3 [2] ?_;refine xT (lnR b a5 r5.length u5::h) ?_;exact⟨_,_,_,_,hq,⟨rfl,hw5.k⟩,hk5,rfl⟩
theorem b5L {m:View} (hg:Glob m) (b:Nat) (a:Option Addr) (c:Nat) (ts:List Tok) (h hT:List Res) (hk:Tk2 m hT a c ts) (hs:hT.Sublist h):LnY m 78 [ptV b] b a c ts hT h (a3J ts) WF:=by
 have hq:a3J ts=O2 (a6G (if isM 2 [86,65,76] ts then ts.tail else ts)) fun t r=>O2 (U6 r) fun n r=>if foP ⟨isM 2 [86,65,76] ts,t,n⟩ then .ok (⟨isM 2 [86,65,76] ts,t,n⟩,r) else .error 110:=rfl
 refine CX.body Tryz.call78 Tryz.func78 rfl Tryz.ntmps78 Lb rfl ?_;refine j0 ?_;refine xW fun b2=>?_
 refine kQ0 [0,2] ?_;refine kA1 ?_;refine xf (E1 Ek) (J5 _ _ _) ?_;refine pD (lnR b a ts.length c) ?_;refine xg (E2 Et Et) (K2 b a c ts _ _ _ hk (hs.trans Sb)) ?_;rintro _ _ ⟨a6,u6,r6,rfl,he6,hk6,rfl⟩;rw[<- he6] at hq;refine kA1 ?_;refine xW fun b3=>?_
 refine kQ1 [0,2,3] ?_;refine kA1 ?_;refine pD (lnR b a6 r6.length u6) ?_;refine A0 Ef (E1 Et) (a9I hg b a6 u6 r6 _ _ hk6 (hs.trans Sb)) Lb (fun v hv hx=>?_) fun v9 h9 hr9=>?_
 ·obtain⟨e,hx1,rfl,rfl⟩:=hx;rw[hx1] at hq;exact lnP Tryz.f78 hq Sb
 obtain⟨x9,r9,a9,u9,hM9,⟨rfl,hw9⟩,hk9,rfl⟩:=hr9;rw[hM9,H3] at hq;refine kQ2 [0,2,3] ?_;refine kA1 ?_;refine pD (lnR b a9 r9.length u9) ?_;refine A0 Ef (E1 Et) (a0F b a9 u9 r9 _ _ hk9 (hs.trans Sb)) Lb (fun v hv hx=>?_) fun v12 h12 hr12=>?_
 ·obtain⟨e,hx1,rfl,rfl⟩:=hx;rw[hx1] at hq;exact lnP Tryz.f78 hq Sb
 obtain⟨x12,r12,a12,u12,hM12,⟨rfl,hw12⟩,hk12,rfl⟩:=hr12;rw[hM12,H3] at hq;refine kQ2 [2,3] ?_;refine kA1 ?_;refine xf (E1 Et) (b8l hg ⟨isM 2 [86,65,76] ts,x9,x12⟩ ⟨hw9,hw12⟩) ?_;refine kQ1 [2,3,16] ?_;refine wc (fun c16=>?_) fun c16=>?_
 have d16:foP ⟨isM 2 [86,65,76] ts,x9,x12⟩=false:=by simpa using c16
 rw[if_neg (G6 d16)] at hq;refine j0 ?_;refine A0 Ef Evs.nil (H8 _ _) Lb (fun v hv hx=>?_) fun v17 h17 hr17=>?_
 ·obtain⟨rfl,rfl⟩:=hx;exact lnP Tryz.f78 hq Sb
 exact hr17.elim;have d16:foP ⟨isM 2 [86,65,76] ts,x9,x12⟩=true:=by simpa using c16
 rw[if_pos d16] at hq;refine kQ0 [2,3] ?_;refine kQ2 [2] ?_;refine xT (lnR b a12 r12.length u12::h) (h1:=cA b3j) ?_;exact⟨_,_,_,_,hq,⟨rfl,hw9,hw12⟩,hk12,rfl⟩
theorem b6Y {m:View} (hg:Glob m) (b:Nat) (a:Option Addr) (c:Nat) (ts:List Tok) (h hT:List Res) (hk:Tk2 m hT a c ts) (hs:hT.Sublist h):LnX m 216 [ptV b] b a c ts hT h (b2w ts) (OR m):=by
 have hq:b2w ts=if ts.isEmpty then .ok (D1,ts) else O2 (U6 ts) fun n r=>X6 5 [61] r fun r=>O2 (L6 r) fun b r=>X6 2 [70,79,82] r fun r=>O2 (L6 r) fun c r=>.ok (⟨n,b,c⟩,r):=rfl
 refine CX.body Tryz.call216 Tryz.func216 rfl Tryz.ntmps216 Lb rfl ?_;refine j0 ?_;refine xW fun b2=>?_
 refine kQ0 [0,2] ?_;refine kQ6 [0,2,9] ?_;refine wc (fun c9=>?_) fun c9=>?_
 replace c9:=F9 c9;have d9:ts.isEmpty=true:=by rw[List.isEmpty_iff];exact List.eq_nil_of_length_eq_zero (by omega)
 rw[if_pos d9] at hq;refine kQ2 [2] ?_;refine xT (lnR b a ts.length c::h) (h1:=cA c1A) ?_;exact⟨_,_,_,_,[],hq,⟨⟨[],A2,A2⟩,rfl,rfl,Nat.zero_le _,E6 _ _,E6 _ _⟩,hk,rfl⟩;replace c9:=F7 c9;have d9:ts.isEmpty=false:=by cases ts with | nil=>exact absurd rfl c9 | cons=>rfl
 rw[if_neg (G6 d9)] at hq;refine kQ0 [0,2] ?_;refine kA1 ?_;refine pD (lnR b a ts.length c) ?_;refine A0 Ef (E1 Et) (a0F b a c ts _ _ hk (hs.trans Sb)) Lb (fun v hv hx=>?_) fun v12 h12 hr12=>?_
 ·obtain⟨e,hx1,rfl,rfl⟩:=hx;rw[hx1] at hq;exact lnP Tryz.f216 hq Sb
 obtain⟨x12,r12,a12,u12,hM12,⟨rfl,hw12⟩,hk12,rfl⟩:=hr12;rw[hM12,H3] at hq;refine kA1 ?_;refine xW fun b3=>?_
 refine kQ1 [0,2,3] ?_;refine kA1 ?_;refine xf (E1 Ek) (G5 _ _ _) ?_;refine xY A6 Eb fun b16=>?_
 refine pD (lnR b a12 r12.length u12) ?_;refine A0 Ef (E2 Et Et) (M9 b a12 u12 r12 _ _ _ _ _ hk12 (hs.trans Sb) (Rd.ofPt rfl (by decide) Me)) Lb (fun v hv hx=>?_) fun v17 h17 hr17=>?_
 ·obtain⟨hx1,rfl,rfl⟩:=hx;exact lnP Tryz.f216 (hq.trans (a3m hx1)) Sb
 obtain⟨hi17,a17,u17,hk17,rfl⟩:=hr17;rw[a2S hi17] at hq;refine kQ0 [0,2,3] ?_;refine kA1 ?_;refine pD (lnR b a17 r12.tail.length u17) ?_;refine A0 Ef (E1 Et) (R8 hg b a17 u17 r12.tail _ _ hk17 (hs.trans Sb)) Lb (fun v hv hx=>?_) fun v19 h19 hr19=>?_
 ·obtain⟨e,hx1,rfl,rfl⟩:=hx;rw[hx1] at hq;exact lnP Tryz.f216 hq Sb
 obtain⟨x19,r19,a19,u19,bl19,hM19,⟨t19,rfl,rfl,hO19⟩,hk19,rfl⟩:=hr19;refine WL.perm ((Mv.perm).cons _) ?_;rw[hM19,H3] at hq;refine kQ2 [0,2,3] ?_;refine kA1 ?_;refine xf (E1 Ek) (J5 _ _ _) ?_;refine xY A6 Eb fun b23=>?_
 refine pD (lnR b a19 r19.length u19) ?_;refine A0 Ef (E2 Et Et) (M9 b a19 u19 r19 _ _ _ _ _ hk19 (hs.trans Sb) (Rd.ofPt rfl (by decide) Me)) Lb (fun v hv hx=>?_) fun v24 h24 hr24=>?_
 ·obtain⟨hx1,rfl,rfl⟩:=hx;exact lnP Tryz.f216 (hq.trans (a3m hx1)) Sb
 obtain⟨hi24,a24,u24,hk24,rfl⟩:=hr24;rw[a2S hi24] at hq;refine kQ0 [0,2,3] ?_;refine kA1 ?_;refine pD (lnR b a24 r19.tail.length u24) ?_;refine A0 Ef (E1 Et) (R8 hg b a24 u24 r19.tail _ _ hk24 (hs.trans Sb)) Lb (fun v hv hx=>?_) fun v26 h26 hr26=>?_
 ·obtain⟨e,hx1,rfl,rfl⟩:=hx;rw[hx1] at hq;exact lnP Tryz.f216 hq Sb
 obtain⟨x26,r26,a26,u26,bl26,hM26,⟨t26,rfl,rfl,hO26⟩,hk26,rfl⟩:=hr26;refine WL.perm ((Mv.perm).cons _) ?_;rw[hM26,H3] at hq;refine kQ2 [2,3] ?_;refine kQ2 [2] ?_;refine xT (lnR b a26 r26.length u26::(bl26++(bl19++h))) (h1:=cA c1A) ?_;exact⟨_,_,_,_,bl26++bl19,hq,⟨⟨x12,t19,t26⟩,rfl,rfl,hw12,hO19.mono (List.sublist_append_right _ _),hO26.mono (List.sublist_append_left _ _)⟩,hk26,by rw[List.append_assoc]⟩
end
section
open Go.Eng Go.Pc Go.Sx Go
open Go.Xp hiding B D5
open Go.Ty (Ty Vr Tok eqT tyV I4 B2 B4 R1 zeroK L7 D3)
open Go.Lx (encB C4)
abbrev OL (m:View) (l:List Ex) (v:Value) (bl:List Res):Prop:=∃ s:Sli Ex,v=.slice s.a s.l.length s.c/\s.l.map B8=l/\LOk m bl s
abbrev OLs {α:Type} (m:View) (enc:α->List Value) (sz:Nat) (W:α->Prop) (l:List α) (v:Value) (bl:List Res):Prop:=∃ a c,v=.slice a l.length c/\Rd m bl a l.length c sz (fl enc l)/\∀ x ∈ l,W x
abbrev WB (s:B):Prop:=s.length<=Big
abbrev WK (k:Int):Prop:=0<=k/\k<=255
theorem a4M {α:Type} {take:List Tok->E α} {sep:B} {n:Nat} {acc:List α} {ts:List Tok} (h:isM 5 sep ts=false):a1S take sep n acc ts=.ok (acc,ts):=by
 cases n <;> (unfold a1S;rw[if_neg (G6 h)])
theorem a3P {α:Type} {take:List Tok->E α} {sep:B} {acc:List α} {ts:List Tok} (h:isM 5 sep ts=true):a1S take sep 0 acc ts=.error 110:=by unfold a1S;rw[if_pos h]
theorem a3L {α:Type} {take:List Tok->E α} {sep:B} {n:Nat} {acc:List α} {ts:List Tok} (h:isM 5 sep ts=true):a1S take sep (n+1) acc ts=O2 (take ts.tail) fun x r=>a1S take sep n (acc++[x]) r:=by
 conv=>lhs;unfold a1S
 rw[if_pos h]
theorem V4 {α:Type} {p:α->Prop} {l:List α} {x:α} (h:∀ y ∈ l,p y) (hx:p x):∀ y ∈ l++[x],p y:=fun y hy=>by
 rcases List.mem_append.1 hy with h1 | h1
 ·exact h y h1
 ·rw[List.mem_singleton] at h1;exact h1 ▸ hx
theorem a0r {m:View} (q:FuncId) (take:List Tok->E Ex) (sep:B) (most:Nat) (b:Nat) (a:Option Addr) (c:Nat) (ts:List Tok) (h hT:List Res) (hk:Tk2 m hT a c ts) (hs:hT.Sublist h) (h1:1<=most/\most<=100)
 (ht:∀ (a:Option Addr) (c:Nat) (ts:List Tok) (h:List Res),Tk2 m hT a c ts->hT.Sublist h->LnX m q [ptV b] b a c ts hT h (take ts) (OE m)) :
 LnX m 100 [ptV b,str sep,.int .i64 most,.func (.func q) #[ptV b] #[]] b a c ts hT h (P0 take sep most ts) (OL m):=by
 have hq:P0 take sep most ts=O2 (take ts) fun x r=>a1S take sep (most - 1) [x] r:=rfl
 refine CX.body Tryz.call100 Tryz.func100 rfl Tryz.ntmps100 Lb rfl ?_;refine kQ1 [0,1,2,3] ?_;refine kA1 ?_;refine pD (lnR b a ts.length c) ?_;refine A0 (Ev.tmp rfl) Evs.nil (ht a c ts _ hk (hs.trans Sb)) Lb (fun v hv hx=>?_) fun v11 h11 hr11=>?_
 ·obtain⟨e,hx1,rfl,rfl⟩:=hx;rw[hx1] at hq;exact lnP Tryz.f100 hq Sb
 obtain⟨x11,r11,a11,u11,bl11,hM11,⟨t11,rfl,rfl,hO11⟩,hk11,rfl⟩:=hr11;refine WL.perm ((Mv.perm).cons _) ?_;rw[hM11,H3] at hq;refine xY Y9 Eb fun b12=>?_
 refine kA1 ?_;refine a3h (k:=1) (sz:=6) (cs:=exE t11) rfl (by decide) Up ?_;refine WL.perm (List.Perm.swap _ _ _) ?_;refine kQ0 [0,1,2,3,9] ?_
 refine B0 [0,1,2,3] rfl (fun μ F' h'=>∃ a9:Option Addr,∃ c9:Nat,∃ l:List Ex,∃ bl:List Res,∃ x:Option Addr,∃ y:Nat,∃ r:List Tok,((1<=l.length/\l.length<=most)/\Tk2 m hT x y r/\(∀ z ∈ l,EOk m bl z)/\P0 take sep most ts=a1S take sep (most - l.length) (l.map B8) r)/\most - l.length=μ/\F'=[(9,.slice a9 l.length c9)]/\lnR b x r.length y::.row (.slice a9 l.length c9) 29 6 l.length (fl exE l)::(bl++h)=h') (most - ([t11]).length) [(9,.slice (some ⟨b12,0,none⟩) ([t11]).length 1)] (h0:=lnR b a11 r11.length u11::.row (.slice (some ⟨b12,0,none⟩) ([t11]).length 1) 29 6 ([t11]).length (fl exE ([t11]))::(bl11++h)) ?_ Sb ⟨some ⟨b12,0,none⟩,1,[t11],bl11,a11,u11,r11,⟨⟨Nat.le_refl _,h1.1⟩,hk11,fun z hz=>by rw[List.mem_singleton] at hz;subst hz;exact hO11,hq⟩,rfl,rfl,rfl⟩ ?_;exact Su;rintro _ _ _ ⟨a9,c9,l,bl,x,y,r,⟨⟨hl1,hl2⟩,hk1,hW,hJ⟩,rfl,rfl,rfl⟩;refine B1 rfl ?_;refine kA2 ?_
 refine xf (E1 Et) (G5 _ _ _) ?_;refine pD (lnR b x r.length y) ?_;refine xg (E2 Et Et) (K2 b x y r _ _ _ hk1 (hs.trans Sb)) ?_;rintro _ _ ⟨a16,u16,r16,rfl,he16,hk16,rfl⟩;refine kQ0 [0,1,2,3,9,16] ?_;refine wc (fun c16=>?_) fun c16=>?_
 replace he16:=he16.trans (if_pos c16);subst r16;refine kQ0 [0,1,2,3,9] ?_;refine kQ4 [0,1,2,3,9,20] ?_;refine wc (fun c20=>?_) fun c20=>?_
 replace c20:=F9 c20;have e20:most - l.length=0:=by omega
 have hq:P0 take sep most ts=.error 110:=by rw[hJ,e20];exact a3P c16
 refine j0 ?_;refine A0 Ef Evs.nil (H8 _ _) Lb (fun v hv hx=>?_) fun v21 h21 hr21=>?_
 ·obtain⟨rfl,rfl⟩:=hx;exact lnP Tryz.f100 hq Sb
 exact hr21.elim;replace c20:=F7 c20;obtain⟨n,hn⟩:∃ n,most - l.length=n+1:=⟨most - l.length - 1,by omega⟩;rw[hn] at hJ;have hq:=hJ.trans (a3L c16);refine kQ0 [0,1,2,3,9] ?_;refine kA2 ?_;refine pD (lnR b a16 r.tail.length u16) ?_;refine A0 (Ev.tmp rfl) Evs.nil (ht a16 u16 r.tail _ hk16 (hs.trans Sb)) Lb (fun v hv hx=>?_) fun v24 h24 hr24=>?_
 ·obtain⟨e,hx1,rfl,rfl⟩:=hx;rw[hx1] at hq;exact lnP Tryz.f100 hq Sb
 obtain⟨x24,r24,a24,u24,bl24,hM24,⟨t24,rfl,rfl,hO24⟩,hk24,rfl⟩:=hr24;refine WL.perm ((Mv.perm).cons _) ?_;rw[hM24,H3] at hq;have hln:(l++[t24]).length=l.length+1:=List.length_append;have hn2:most - (l++[t24]).length=n:=by omega
 refine xY Y9 Eb fun b25=>?_
 refine xD Y9 (Ev.tmp rfl) (Ev.tmp rfl) (show l.length+1=(l++[t24]).length by simp) (E9 (enc:=exE) _ (t24)) fun a26 c26=>?_
 refine kA1 ?_;rw[<- List.append_assoc bl24 bl h];refine WL.nil (A4 (most - (l++[t24]).length) [(9,.slice a26 (l++[t24]).length c26)] (h'':=lnR b a24 r24.length u24::.row (.slice a26 (l++[t24]).length c26) 29 6 (l++[t24]).length (fl exE (l++[t24]))::((bl24++bl)++h)) (by omega) ?_ Su Sb ⟨a26,c26,l++[t24],bl24++bl,a24,u24,r24,⟨⟨by omega,by omega⟩,hk24,V4 (fun z hz=>(hW z hz).mono (List.sublist_append_right _ _)) (hO24.mono (List.sublist_append_left _ _)),by rw[hn2,List.map_append];exact hq⟩,rfl,rfl,rfl⟩);exact Su;replace he16:=he16.trans (if_neg (G6 c16));subst r16;rw[a4M c16] at hJ;refine O8 (a:=a9) Me fun p9 q9 r9=>?_
 refine kQ0 [9] ?_;refine kQ2 [8] ?_;refine xT (lnR b a16 r.length u16::.row (.slice a9 l.length c9) 29 6 l.length (fl exE l)::(bl++h)) ?_;exact⟨_,r,_,_,.row (.slice a9 l.length c9) 29 6 l.length (fl exE l)::bl,hJ,⟨⟨a9,c9,l⟩,rfl,rfl,Rd.inRow (List.Mem.head _) r9 p9 q9,fun z hz=>(hW z hz).mono (List.sublist_cons_self _ _)⟩,hk16,rfl⟩
theorem b6m {m:View} (q:FuncId) (take:List Tok->E B) (sep:B) (most:Nat) (b:Nat) (a:Option Addr) (c:Nat) (ts:List Tok) (h hT:List Res) (hk:Tk2 m hT a c ts) (hs:hT.Sublist h) (h1:1<=most/\most<=100)
 (ht:∀ (a:Option Addr) (c:Nat) (ts:List Tok) (h:List Res),Tk2 m hT a c ts->hT.Sublist h->LnY m q [ptV b] b a c ts hT h (take ts) WN) :
 LnX m 86 [ptV b,str sep,.int .i64 most,.func (.func q) #[ptV b] #[]] b a c ts hT h (P0 take sep most ts) (OLs m encB 1 WB):=by
 have hq:P0 take sep most ts=O2 (take ts) fun x r=>a1S take sep (most - 1) [x] r:=rfl
 refine CX.body Tryz.call86 Tryz.func86 rfl Tryz.ntmps86 Lb rfl ?_;refine kQ1 [0,1,2,3] ?_;refine kA1 ?_;refine pD (lnR b a ts.length c) ?_;refine A0 (Ev.tmp rfl) Evs.nil (ht a c ts _ hk (hs.trans Sb)) Lb (fun v hv hx=>?_) fun v11 h11 hr11=>?_
 ·obtain⟨e,hx1,rfl,rfl⟩:=hx;rw[hx1] at hq;exact lnP Tryz.f86 hq Sb
 obtain⟨x11,r11,a11,u11,hM11,⟨rfl,hw11⟩,hk11,rfl⟩:=hr11;rw[hM11,H3] at hq;refine xY M1 Eb fun b12=>?_
 refine kA1 ?_;refine a3h (k:=1) (sz:=1) (cs:=encB x11) rfl (by decide) Up ?_;refine WL.perm (List.Perm.swap _ _ _) ?_;refine kQ0 [0,1,2,3,9] ?_;refine B0 [0,1,2,3] rfl (fun μ F' h'=>∃ a9:Option Addr,∃ c9:Nat,∃ l:List B,∃ x:Option Addr,∃ y:Nat,∃ r:List Tok,((1<=l.length/\l.length<=most)/\Tk2 m hT x y r/\(∀ z ∈ l,WB z)/\P0 take sep most ts=a1S take sep (most - l.length) l r)/\most - l.length=μ/\F'=[(9,.slice a9 l.length c9)]/\lnR b x r.length y::.row (.slice a9 l.length c9) 9 1 l.length (fl encB l)::h=h') (most - ([x11]).length) [(9,.slice (some ⟨b12,0,none⟩) ([x11]).length 1)] (h0:=lnR b a11 r11.length u11::.row (.slice (some ⟨b12,0,none⟩) ([x11]).length 1) 9 1 ([x11]).length (fl encB ([x11]))::h) ?_ Sb ⟨some ⟨b12,0,none⟩,1,[x11],a11,u11,r11,⟨⟨Nat.le_refl _,h1.1⟩,hk11,fun z hz=>by rw[List.mem_singleton] at hz;subst hz;exact hw11,hq⟩,rfl,rfl,rfl⟩ ?_;exact Su
 rintro _ _ _ ⟨a9,c9,l,x,y,r,⟨⟨hl1,hl2⟩,hk1,hW,hJ⟩,rfl,rfl,rfl⟩;refine B1 rfl ?_;refine kA2 ?_;refine xf (E1 Et) (G5 _ _ _) ?_;refine pD (lnR b x r.length y) ?_;refine xg (E2 Et Et) (K2 b x y r _ _ _ hk1 (hs.trans Sb)) ?_;rintro _ _ ⟨a16,u16,r16,rfl,he16,hk16,rfl⟩;refine kQ0 [0,1,2,3,9,16] ?_;refine wc (fun c16=>?_) fun c16=>?_
 replace he16:=he16.trans (if_pos c16);subst r16;refine kQ0 [0,1,2,3,9] ?_;refine kQ4 [0,1,2,3,9,20] ?_;refine wc (fun c20=>?_) fun c20=>?_
 replace c20:=F9 c20;have e20:most - l.length=0:=by omega
 have hq:P0 take sep most ts=.error 110:=by rw[hJ,e20];exact a3P c16
 refine j0 ?_;refine A0 Ef Evs.nil (H8 _ _) Lb (fun v hv hx=>?_) fun v21 h21 hr21=>?_
 ·obtain⟨rfl,rfl⟩:=hx;exact lnP Tryz.f86 hq Sb
 exact hr21.elim;replace c20:=F7 c20;obtain⟨n,hn⟩:∃ n,most - l.length=n+1:=⟨most - l.length - 1,by omega⟩;rw[hn] at hJ;have hq:=hJ.trans (a3L c16);refine kQ0 [0,1,2,3,9] ?_;refine kA2 ?_;refine pD (lnR b a16 r.tail.length u16) ?_;refine A0 (Ev.tmp rfl) Evs.nil (ht a16 u16 r.tail _ hk16 (hs.trans Sb)) Lb (fun v hv hx=>?_) fun v24 h24 hr24=>?_
 ·obtain⟨e,hx1,rfl,rfl⟩:=hx;rw[hx1] at hq;exact lnP Tryz.f86 hq Sb
 obtain⟨x24,r24,a24,u24,hM24,⟨rfl,hw24⟩,hk24,rfl⟩:=hr24;rw[hM24,H3] at hq;have hln:(l++[x24]).length=l.length+1:=List.length_append;have hn2:most - (l++[x24]).length=n:=by omega
 refine xY M1 Eb fun b25=>?_
 refine xD M1 (Ev.tmp rfl) (Ev.tmp rfl) (show l.length+1=(l++[x24]).length by simp) (E9 (enc:=encB) _ (x24)) fun a26 c26=>?_
 refine kA1 ?_;refine WL.nil (A4 (most - (l++[x24]).length) [(9,.slice a26 (l++[x24]).length c26)] (h'':=lnR b a24 r24.length u24::.row (.slice a26 (l++[x24]).length c26) 9 1 (l++[x24]).length (fl encB (l++[x24]))::h) (by omega) ?_ Su Sb ⟨a26,c26,l++[x24],a24,u24,r24,⟨⟨by omega,by omega⟩,hk24,V4 hW hw24,by rw[hn2];exact hq⟩,rfl,rfl,rfl⟩);exact Su;replace he16:=he16.trans (if_neg (G6 c16));subst r16;rw[a4M c16] at hJ;refine O8 (a:=a9) Me fun p9 q9 r9=>?_
 refine kQ0 [9] ?_;refine kQ2 [8] ?_;refine xT (lnR b a16 r.length u16::.row (.slice a9 l.length c9) 9 1 l.length (fl encB l)::h) ?_;exact⟨_,r,_,_,[.row (.slice a9 l.length c9) 9 1 l.length (fl encB l)],hJ,⟨a9,c9,rfl,Rd.inRow (List.Mem.head _) r9 p9 q9,hW⟩,hk16,rfl⟩
theorem b0N {m:View} (q:FuncId) (take:List Tok->E Int) (sep:B) (most:Nat) (b:Nat) (a:Option Addr) (c:Nat) (ts:List Tok) (h hT:List Res) (hk:Tk2 m hT a c ts) (hs:hT.Sublist h) (h1:1<=most/\most<=100)
 (ht:∀ (a:Option Addr) (c:Nat) (ts:List Tok) (h:List Res),Tk2 m hT a c ts->hT.Sublist h->LnY m q [ptV b] b a c ts hT h (take ts) WI) :
 LnX m 135 [ptV b,str sep,.int .i64 most,.func (.func q) #[ptV b] #[]] b a c ts hT h (P0 take sep most ts) (OLs m L7 1 WK):=by
 have hq:P0 take sep most ts=O2 (take ts) fun x r=>a1S take sep (most - 1) [x] r:=rfl
 refine CX.body Tryz.call135 Tryz.func135 rfl Tryz.ntmps135 Lb rfl ?_;refine kQ1 [0,1,2,3] ?_;refine kA1 ?_;refine pD (lnR b a ts.length c) ?_;refine A0 (Ev.tmp rfl) Evs.nil (ht a c ts _ hk (hs.trans Sb)) Lb (fun v hv hx=>?_) fun v11 h11 hr11=>?_
 ·obtain⟨e,hx1,rfl,rfl⟩:=hx;rw[hx1] at hq;exact lnP Tryz.f135 hq Sb
 obtain⟨x11,r11,a11,u11,hM11,⟨rfl,hw11⟩,hk11,rfl⟩:=hr11;rw[hM11,H3] at hq;refine xY b3v Eb fun b12=>?_
 refine kA1 ?_;refine a3h (k:=1) (sz:=1) (cs:=L7 x11) rfl (by decide) Up ?_;refine WL.perm (List.Perm.swap _ _ _) ?_;refine kQ0 [0,1,2,3,9] ?_;refine B0 [0,1,2,3] rfl (fun μ F' h'=>∃ a9:Option Addr,∃ c9:Nat,∃ l:List Int,∃ x:Option Addr,∃ y:Nat,∃ r:List Tok,((1<=l.length/\l.length<=most)/\Tk2 m hT x y r/\(∀ z ∈ l,WK z)/\P0 take sep most ts=a1S take sep (most - l.length) l r)/\most - l.length=μ/\F'=[(9,.slice a9 l.length c9)]/\lnR b x r.length y::.row (.slice a9 l.length c9) 26 1 l.length (fl L7 l)::h=h') (most - ([x11]).length) [(9,.slice (some ⟨b12,0,none⟩) ([x11]).length 1)] (h0:=lnR b a11 r11.length u11::.row (.slice (some ⟨b12,0,none⟩) ([x11]).length 1) 26 1 ([x11]).length (fl L7 ([x11]))::h) ?_ Sb ⟨some ⟨b12,0,none⟩,1,[x11],a11,u11,r11,⟨⟨Nat.le_refl _,h1.1⟩,hk11,fun z hz=>by rw[List.mem_singleton] at hz;subst hz;exact hw11,hq⟩,rfl,rfl,rfl⟩ ?_;exact Su
 rintro _ _ _ ⟨a9,c9,l,x,y,r,⟨⟨hl1,hl2⟩,hk1,hW,hJ⟩,rfl,rfl,rfl⟩;refine B1 rfl ?_;refine kA2 ?_;refine xf (E1 Et) (G5 _ _ _) ?_;refine pD (lnR b x r.length y) ?_;refine xg (E2 Et Et) (K2 b x y r _ _ _ hk1 (hs.trans Sb)) ?_;rintro _ _ ⟨a16,u16,r16,rfl,he16,hk16,rfl⟩;refine kQ0 [0,1,2,3,9,16] ?_;refine wc (fun c16=>?_) fun c16=>?_
 replace he16:=he16.trans (if_pos c16);subst r16;refine kQ0 [0,1,2,3,9] ?_;refine kQ4 [0,1,2,3,9,20] ?_;refine wc (fun c20=>?_) fun c20=>?_
 replace c20:=F9 c20;have e20:most - l.length=0:=by omega
 have hq:P0 take sep most ts=.error 110:=by rw[hJ,e20];exact a3P c16
 refine j0 ?_;refine A0 Ef Evs.nil (H8 _ _) Lb (fun v hv hx=>?_) fun v21 h21 hr21=>?_
 ·obtain⟨rfl,rfl⟩:=hx;exact lnP Tryz.f135 hq Sb
 exact hr21.elim;replace c20:=F7 c20;obtain⟨n,hn⟩:∃ n,most - l.length=n+1:=⟨most - l.length - 1,by omega⟩;rw[hn] at hJ;have hq:=hJ.trans (a3L c16);refine kQ0 [0,1,2,3,9] ?_;refine kA2 ?_;refine pD (lnR b a16 r.tail.length u16) ?_;refine A0 (Ev.tmp rfl) Evs.nil (ht a16 u16 r.tail _ hk16 (hs.trans Sb)) Lb (fun v hv hx=>?_) fun v24 h24 hr24=>?_
 ·obtain⟨e,hx1,rfl,rfl⟩:=hx;rw[hx1] at hq;exact lnP Tryz.f135 hq Sb
 obtain⟨x24,r24,a24,u24,hM24,⟨rfl,hw24⟩,hk24,rfl⟩:=hr24;rw[hM24,H3] at hq;have hln:(l++[x24]).length=l.length+1:=List.length_append;have hn2:most - (l++[x24]).length=n:=by omega
 refine xY b3v Eb fun b25=>?_
 refine xD b3v (Ev.tmp rfl) (Ev.tmp rfl) (show l.length+1=(l++[x24]).length by simp) (E9 (enc:=L7) _ (x24)) fun a26 c26=>?_
 refine kA1 ?_;refine WL.nil (A4 (most - (l++[x24]).length) [(9,.slice a26 (l++[x24]).length c26)] (h'':=lnR b a24 r24.length u24::.row (.slice a26 (l++[x24]).length c26) 26 1 (l++[x24]).length (fl L7 (l++[x24]))::h) (by omega) ?_ Su Sb ⟨a26,c26,l++[x24],a24,u24,r24,⟨⟨by omega,by omega⟩,hk24,V4 hW hw24,by rw[hn2];exact hq⟩,rfl,rfl,rfl⟩);exact Su;replace he16:=he16.trans (if_neg (G6 c16));subst r16;rw[a4M c16] at hJ;refine O8 (a:=a9) Me fun p9 q9 r9=>?_
 refine kQ0 [9] ?_;refine kQ2 [8] ?_;refine xT (lnR b a16 r.length u16::.row (.slice a9 l.length c9) 26 1 l.length (fl L7 l)::h) ?_;exact⟨_,r,_,_,[.row (.slice a9 l.length c9) 26 1 l.length (fl L7 l)],hJ,⟨a9,c9,rfl,Rd.inRow (List.Mem.head _) r9 p9 q9,hW⟩,hk16,rfl⟩
theorem b8h {m:View} (q:FuncId) (take:List Tok->E Fo) (sep:B) (most:Nat) (b:Nat) (a:Option Addr) (c:Nat) (ts:List Tok) (h hT:List Res) (hk:Tk2 m hT a c ts) (hs:hT.Sublist h) (h1:1<=most/\most<=100)
 (ht:∀ (a:Option Addr) (c:Nat) (ts:List Tok) (h:List Res),Tk2 m hT a c ts->hT.Sublist h->LnY m q [ptV b] b a c ts hT h (take ts) WF) :
 LnX m 138 [ptV b,str sep,.int .i64 most,.func (.func q) #[ptV b] #[]] b a c ts hT h (P0 take sep most ts) (OLs m foE 6 FoW):=by
 have hq:P0 take sep most ts=O2 (take ts) fun x r=>a1S take sep (most - 1) [x] r:=rfl
 refine CX.body Tryz.call138 Tryz.func138 rfl Tryz.ntmps138 Lb rfl ?_;refine kQ1 [0,1,2,3] ?_;refine kA1 ?_;refine pD (lnR b a ts.length c) ?_;refine A0 (Ev.tmp rfl) Evs.nil (ht a c ts _ hk (hs.trans Sb)) Lb (fun v hv hx=>?_) fun v11 h11 hr11=>?_
 ·obtain⟨e,hx1,rfl,rfl⟩:=hx;rw[hx1] at hq;exact lnP Tryz.f138 hq Sb
 obtain⟨x11,r11,a11,u11,hM11,⟨rfl,hw11⟩,hk11,rfl⟩:=hr11;rw[hM11,H3] at hq;refine xY b8Q Eb fun b12=>?_
 refine kA1 ?_;refine a3h (k:=1) (sz:=6) (cs:=foE x11) rfl (by decide) Up ?_;refine WL.perm (List.Perm.swap _ _ _) ?_;refine kQ0 [0,1,2,3,9] ?_;refine B0 [0,1,2,3] rfl (fun μ F' h'=>∃ a9:Option Addr,∃ c9:Nat,∃ l:List Fo,∃ x:Option Addr,∃ y:Nat,∃ r:List Tok,((1<=l.length/\l.length<=most)/\Tk2 m hT x y r/\(∀ z ∈ l,FoW z)/\P0 take sep most ts=a1S take sep (most - l.length) l r)/\most - l.length=μ/\F'=[(9,.slice a9 l.length c9)]/\lnR b x r.length y::.row (.slice a9 l.length c9) 154 6 l.length (fl foE l)::h=h') (most - ([x11]).length) [(9,.slice (some ⟨b12,0,none⟩) ([x11]).length 1)] (h0:=lnR b a11 r11.length u11::.row (.slice (some ⟨b12,0,none⟩) ([x11]).length 1) 154 6 ([x11]).length (fl foE ([x11]))::h) ?_ Sb ⟨some ⟨b12,0,none⟩,1,[x11],a11,u11,r11,⟨⟨Nat.le_refl _,h1.1⟩,hk11,fun z hz=>by rw[List.mem_singleton] at hz;subst hz;exact hw11,hq⟩,rfl,rfl,rfl⟩ ?_;exact Su
 rintro _ _ _ ⟨a9,c9,l,x,y,r,⟨⟨hl1,hl2⟩,hk1,hW,hJ⟩,rfl,rfl,rfl⟩;refine B1 rfl ?_;refine kA2 ?_;refine xf (E1 Et) (G5 _ _ _) ?_;refine pD (lnR b x r.length y) ?_;refine xg (E2 Et Et) (K2 b x y r _ _ _ hk1 (hs.trans Sb)) ?_;rintro _ _ ⟨a16,u16,r16,rfl,he16,hk16,rfl⟩;refine kQ0 [0,1,2,3,9,16] ?_;refine wc (fun c16=>?_) fun c16=>?_
 replace he16:=he16.trans (if_pos c16);subst r16;refine kQ0 [0,1,2,3,9] ?_;refine kQ4 [0,1,2,3,9,20] ?_;refine wc (fun c20=>?_) fun c20=>?_
 replace c20:=F9 c20;have e20:most - l.length=0:=by omega
 have hq:P0 take sep most ts=.error 110:=by rw[hJ,e20];exact a3P c16
 refine j0 ?_;refine A0 Ef Evs.nil (H8 _ _) Lb (fun v hv hx=>?_) fun v21 h21 hr21=>?_
 ·obtain⟨rfl,rfl⟩:=hx;exact lnP Tryz.f138 hq Sb
 exact hr21.elim;replace c20:=F7 c20;obtain⟨n,hn⟩:∃ n,most - l.length=n+1:=⟨most - l.length - 1,by omega⟩;rw[hn] at hJ;have hq:=hJ.trans (a3L c16);refine kQ0 [0,1,2,3,9] ?_;refine kA2 ?_;refine pD (lnR b a16 r.tail.length u16) ?_;refine A0 (Ev.tmp rfl) Evs.nil (ht a16 u16 r.tail _ hk16 (hs.trans Sb)) Lb (fun v hv hx=>?_) fun v24 h24 hr24=>?_
 ·obtain⟨e,hx1,rfl,rfl⟩:=hx;rw[hx1] at hq;exact lnP Tryz.f138 hq Sb
 obtain⟨x24,r24,a24,u24,hM24,⟨rfl,hw24⟩,hk24,rfl⟩:=hr24;rw[hM24,H3] at hq;have hln:(l++[x24]).length=l.length+1:=List.length_append;have hn2:most - (l++[x24]).length=n:=by omega
 refine xY b8Q Eb fun b25=>?_
 refine xD b8Q (Ev.tmp rfl) (Ev.tmp rfl) (show l.length+1=(l++[x24]).length by simp) (E9 (enc:=foE) _ (x24)) fun a26 c26=>?_
 refine kA1 ?_;refine WL.nil (A4 (most - (l++[x24]).length) [(9,.slice a26 (l++[x24]).length c26)] (h'':=lnR b a24 r24.length u24::.row (.slice a26 (l++[x24]).length c26) 154 6 (l++[x24]).length (fl foE (l++[x24]))::h) (by omega) ?_ Su Sb ⟨a26,c26,l++[x24],a24,u24,r24,⟨⟨by omega,by omega⟩,hk24,V4 hW hw24,by rw[hn2];exact hq⟩,rfl,rfl,rfl⟩);exact Su;replace he16:=he16.trans (if_neg (G6 c16));subst r16;rw[a4M c16] at hJ;refine O8 (a:=a9) Me fun p9 q9 r9=>?_
 refine kQ0 [9] ?_;refine kQ2 [8] ?_;refine xT (lnR b a16 r.length u16::.row (.slice a9 l.length c9) 154 6 l.length (fl foE l)::h) ?_;exact⟨_,r,_,_,[.row (.slice a9 l.length c9) 154 6 l.length (fl foE l)],hJ,⟨a9,c9,rfl,Rd.inRow (List.Mem.head _) r9 p9 q9,hW⟩,hk16,rfl⟩
theorem b9f {m:View} (q:FuncId) (take:List Tok->E Ex) (b:Nat) (a:Option Addr) (c:Nat) (ts:List Tok) (h hT:List Res) (hk:Tk2 m hT a c ts) (hs:hT.Sublist h)
 (ht:∀ (a:Option Addr) (c:Nat) (ts:List Tok) (h:List Res),Tk2 m hT a c ts->hT.Sublist h->LnX m q [ptV b] b a c ts hT h (take ts) (OE m)) :
 LnX m 99 [ptV b,.func (.func q) #[ptV b] #[]] b a c ts hT h (brM take ts) (OL m):=by
 have hq:brM take ts=X6 5 [40] ts fun r=>if isM 5 [41] r then .ok ([],r.tail) else O2 (P0 take [44] 8 r) fun l r=>X6 5 [41] r fun r=>.ok (l,r):=rfl
 refine CX.body Tryz.call99 Tryz.func99 rfl Tryz.ntmps99 Lb rfl ?_;refine kQ1 [0,1] ?_;refine kA1 ?_;refine xf (E1 Ek) (G5 _ _ _) ?_;refine xY A6 Eb fun b8=>?_
 refine pD (lnR b a ts.length c) ?_;refine A0 Ef (E2 Et Et) (M9 b a c ts _ _ _ _ _ hk (hs.trans Sb) (Rd.ofPt rfl (by decide) Me)) Lb (fun v hv hx=>?_) fun v9 h9 hr9=>?_
 ·obtain⟨hx1,rfl,rfl⟩:=hx;exact lnP Tryz.f99 (hq.trans (a3m hx1)) Sb
 obtain⟨hi9,a9,u9,hk9,rfl⟩:=hr9;rw[a2S hi9] at hq;refine kQ0 [0,1] ?_;refine kA1 ?_;refine xf (E1 Ek) (G5 _ _ _) ?_;refine pD (lnR b a9 ts.tail.length u9) ?_;refine xg (E2 Et Et) (K2 b a9 u9 ts.tail _ _ _ hk9 (hs.trans Sb)) ?_;rintro _ _ ⟨a12,u12,r12,rfl,he12,hk12,rfl⟩;refine kQ0 [0,1,12] ?_;refine wc (fun c12=>?_) fun c12=>?_
 replace he12:=he12.trans (if_pos c12);subst r12;rw[if_pos c12] at hq;refine kQ1 [4] ?_;refine xT (lnR b a12 ts.tail.tail.length u12::h) ?_;exact⟨_,_,_,_,[],hq,⟨⟨none,0,[]⟩,rfl,rfl,Rd.nilF exE 6 m _,fun _ hx=>(List.not_mem_nil hx).elim⟩,hk12,rfl⟩;replace he12:=he12.trans (if_neg (G6 c12));subst r12;rw[if_neg (G6 c12)] at hq;refine kQ0 [0,1] ?_;refine kA2 ?_;refine pD (lnR b a12 ts.tail.length u12) ?_;refine A0 Ef (E4 Et Ek Ek Et) (a0r q take [44] 8 b a12 u12 ts.tail _ _ hk12 (hs.trans Sb) (by decide) ht) Lb (fun v hv hx=>?_) fun v15 h15 hr15=>?_
 ·obtain⟨e,hx1,rfl,rfl⟩:=hx;rw[hx1] at hq;exact lnP Tryz.f99 hq Sb
 obtain⟨x15,r15,a15,u15,bl15,hM15,⟨s15,rfl,rfl,hO15⟩,hk15,rfl⟩:=hr15;refine WL.perm ((Mv.perm).cons _) ?_;rw[hM15,H3] at hq;refine kQ1 [0,5] ?_;refine kA1 ?_;refine xf (E1 Ek) (G5 _ _ _) ?_;refine xY A6 Eb fun b18=>?_
 refine pD (lnR b a15 r15.length u15) ?_;refine A0 Ef (E2 Et Et) (M9 b a15 u15 r15 _ _ _ _ _ hk15 (hs.trans Sb) (Rd.ofPt rfl (by decide) Me)) Lb (fun v hv hx=>?_) fun v19 h19 hr19=>?_
 ·obtain⟨hx1,rfl,rfl⟩:=hx;exact lnP Tryz.f99 (hq.trans (a3m hx1)) Sb
 obtain⟨hi19,a19,u19,hk19,rfl⟩:=hr19;rw[a2S hi19] at hq;refine kQ0 [5] ?_;refine kQ2 [4] ?_;refine xT (lnR b a19 r15.tail.length u19::(bl15++h)) ?_;exact⟨_,_,_,_,bl15,hq,⟨s15,rfl,rfl,hO15⟩,hk19,rfl⟩
theorem c0f {m:View} (q:FuncId) (take:List Tok->E Fo) (b:Nat) (a:Option Addr) (c:Nat) (ts:List Tok) (h hT:List Res) (hk:Tk2 m hT a c ts) (hs:hT.Sublist h)
 (ht:∀ (a:Option Addr) (c:Nat) (ts:List Tok) (h:List Res),Tk2 m hT a c ts->hT.Sublist h->LnY m q [ptV b] b a c ts hT h (take ts) WF) :
 LnX m 77 [ptV b,.func (.func q) #[ptV b] #[]] b a c ts hT h (brM take ts) (OLs m foE 6 FoW):=by
 have hq:brM take ts=X6 5 [40] ts fun r=>if isM 5 [41] r then .ok ([],r.tail) else O2 (P0 take [44] 8 r) fun l r=>X6 5 [41] r fun r=>.ok (l,r):=rfl
 refine CX.body Tryz.call77 Tryz.func77 rfl Tryz.ntmps77 Lb rfl ?_;refine kQ1 [0,1] ?_;refine kA1 ?_;refine xf (E1 Ek) (G5 _ _ _) ?_;refine xY A6 Eb fun b8=>?_
 refine pD (lnR b a ts.length c) ?_;refine A0 Ef (E2 Et Et) (M9 b a c ts _ _ _ _ _ hk (hs.trans Sb) (Rd.ofPt rfl (by decide) Me)) Lb (fun v hv hx=>?_) fun v9 h9 hr9=>?_
 ·obtain⟨hx1,rfl,rfl⟩:=hx;exact lnP Tryz.f77 (hq.trans (a3m hx1)) Sb
 obtain⟨hi9,a9,u9,hk9,rfl⟩:=hr9;rw[a2S hi9] at hq;refine kQ0 [0,1] ?_;refine kA1 ?_;refine xf (E1 Ek) (G5 _ _ _) ?_;refine pD (lnR b a9 ts.tail.length u9) ?_;refine xg (E2 Et Et) (K2 b a9 u9 ts.tail _ _ _ hk9 (hs.trans Sb)) ?_;rintro _ _ ⟨a12,u12,r12,rfl,he12,hk12,rfl⟩;refine kQ0 [0,1,12] ?_;refine wc (fun c12=>?_) fun c12=>?_
 replace he12:=he12.trans (if_pos c12);subst r12;rw[if_pos c12] at hq;refine kQ1 [4] ?_;refine xT (lnR b a12 ts.tail.tail.length u12::h) ?_;exact⟨_,_,_,_,[],hq,⟨none,0,rfl,Rd.nilF foE 6 m _,fun _ hx=>(List.not_mem_nil hx).elim⟩,hk12,rfl⟩;replace he12:=he12.trans (if_neg (G6 c12));subst r12;rw[if_neg (G6 c12)] at hq;refine kQ0 [0,1] ?_;refine kA2 ?_;refine pD (lnR b a12 ts.tail.length u12) ?_;refine A0 Ef (E4 Et Ek Ek Et) (b8h q take [44] 8 b a12 u12 ts.tail _ _ hk12 (hs.trans Sb) (by decide) ht) Lb (fun v hv hx=>?_) fun v15 h15 hr15=>?_
 ·obtain⟨e,hx1,rfl,rfl⟩:=hx;rw[hx1] at hq;exact lnP Tryz.f77 hq Sb
 obtain⟨x15,r15,a15,u15,bl15,hM15,⟨p15,q15,rfl,hR15,hO15⟩,hk15,rfl⟩:=hr15;refine WL.perm ((Mv.perm).cons _) ?_;rw[hM15,H3] at hq;refine kQ1 [0,5] ?_;refine kA1 ?_;refine xf (E1 Ek) (G5 _ _ _) ?_;refine xY A6 Eb fun b18=>?_
 refine pD (lnR b a15 r15.length u15) ?_;refine A0 Ef (E2 Et Et) (M9 b a15 u15 r15 _ _ _ _ _ hk15 (hs.trans Sb) (Rd.ofPt rfl (by decide) Me)) Lb (fun v hv hx=>?_) fun v19 h19 hr19=>?_
 ·obtain⟨hx1,rfl,rfl⟩:=hx;exact lnP Tryz.f77 (hq.trans (a3m hx1)) Sb
 obtain⟨hi19,a19,u19,hk19,rfl⟩:=hr19;rw[a2S hi19] at hq;refine kQ0 [5] ?_;refine kQ2 [4] ?_;refine xT (lnR b a19 r15.tail.length u19::(bl15++h)) ?_;exact⟨_,_,_,_,bl15,hq,⟨p15,q15,rfl,hR15,hO15⟩,hk19,rfl⟩
end
section
open Go.Eng Go.Pc Go.Sx Go
open Go.Xp hiding B D5
open Go.Ty (Ty Vr Tok eqT tyV I4 B2 B4 R1 zeroK L7 D3)
open Go.Lx (encB C4)
theorem b7f (a b c:List Res):c.Sublist (a++(b++c)):=(List.sublist_append_right b c).trans (List.sublist_append_right a _)
theorem b7b (a b c:List Res):b.Sublist (a++(b++c)):=(List.sublist_append_left b c).trans (List.sublist_append_right a _)
theorem c0J (ts:List Tok):b0K ts=((a4x ts==0)&&isM 5 [38] (ts.drop (Y3 ts))):=by
 unfold b0K a4x Y3;cases hf:Q0 ts with
 | ok x=>obtain⟨x,k⟩:=x;rfl
 | error e=>
  rcases b0G hf with rfl | rfl <;> rfl
abbrev OG (m:View) (x:Gu) (v:Value) (bl:List Res):Prop:=∃ g,v=guV g/\stG g=x/\GOk m bl g
theorem gok {m:View} {h:List Res} {k:Int} {n:B} {cond ch:Ex} {tg vl:Sli Ex} {time:Ex} (hk:0<=k/\k<=255) (hn:n.length<=Big) (h1:EOk m h cond) (h2:EOk m h ch) (h3:LOk m h tg) (h4:LOk m h vl) (h5:EOk m h time) :
 GOk m h (.mk k n cond ch tg vl time none 0 []):=⟨hk,hn,h1,h2,h3,h4,h5,Rd.nilF prE 42 m h⟩
abbrev g0 (k:Int) (n:B) (cond ch:Ex) (tg vl:Sli Ex) (time:Ex):Gu:=.mk k n cond ch tg vl time none 0 []
abbrev gR (b:Nat) (g:Gu):Res:=.pt b (.cells (guE g).toArray 102 (0,0))
theorem c0c {m:View} (hg:Glob m) (b:Nat) (a:Option Addr) (c:Nat) (ts:List Tok) (h hT:List Res) (hb:lnR b a ts.length c ∈ h) (hk:Tk2 m hT a c ts) (hs:hT.Sublist h) :
 CT Tryz.prog 217 [ptV b] h m (A3 h (.bool (b0K ts))):=by
 have hle:=b0R (ts:=ts);refine CT.body Tryz.call217 Tryz.func217 rfl Tryz.ntmps217 Lb rfl ?_;refine kQ1 [0] ?_;refine kA3 ?_;refine xG (D0 Z0 rfl Et hb rfl) ?_;refine xg (E1 Et) (a8I hg a c ts _ (hk.k.mono (hs.trans Sb)) hk.n) ?_;rintro _ _ ⟨t12,bl,rfl,⟨hst,hU,hW⟩,rfl⟩;refine WL.perm (Mv.perm) ?_;refine kA4 ?_;refine xW fun b3=>?_
 refine kQ3 [0,4,5] ?_;refine kA3 ?_;refine xG (D0 Z0 rfl Et (List.mem_cons_of_mem _ (List.mem_append_right _ hb)) rfl) ?_;refine kA1 ?_;refine xG (a0c A6.und A6.size Et Et rfl (by omega)) ?_;refine kA1 ?_;refine xW fun b6=>?_
 refine kQ1 [5,6] ?_;refine kA3 ?_;refine A7 (GU.t rfl rfl) (fun hc=>⟨Ef,(E1 Ek),G5 _ _ _⟩) Lb ?_;refine A7 (GU.t rfl rfl) (fun hc=>⟨Ef,(E2 Et (Eg hc)),a1Z b6 _ _ (ts.drop (Y3 ts)) _ _ hT (by rw[List.length_drop];exact List.mem_cons_self ..) (hk.drop hle) (hs.trans Sb)⟩) Lb ?_;refine kQ2 [2] ?_;refine wT h ?_;exact⟨by rw[c0J],rfl⟩
theorem c2V {m:View} (hg:Glob m) (b:Nat) (a:Option Addr) (c:Nat) (ts:List Tok) (h hT:List Res) (hk:Tk2 m hT a c ts) (hs:hT.Sublist h):LnX m 151 [ptV b] b a c ts hT h (ifM ts) (OG m):=by
 have hq:ifM ts=O2 (L6 ts) fun c r=>.ok (guM 1 [] c A2 [] [] A2,r):=rfl
 refine CX.body Tryz.call151 Tryz.func151 rfl Tryz.ntmps151 Lb rfl ?_;refine j0 ?_;refine xW fun b2=>?_
 refine kQ0 [0,2] ?_;refine kA1 ?_;refine pD (lnR b a ts.length c) ?_;refine A0 Ef (E1 Et) (R8 hg b a c ts _ _ hk (hs.trans Sb)) Lb (fun v hv hx=>?_) fun v4 h4 hr4=>?_
 ·obtain⟨e,hx1,rfl,rfl⟩:=hx;rw[hx1] at hq;exact lnP Tryz.f151 hq Sb
 obtain⟨x4,r4,a4,u4,bl4,hM4,⟨t4,rfl,rfl,hO4⟩,hk4,rfl⟩:=hr4;refine WL.perm ((Mv.perm).cons _) ?_;rw[hM4,H3] at hq;refine kQ2 [2] ?_;refine xT (lnR b a4 r4.length u4::(bl4++h)) (h1:=cA a4Q) ?_;exact⟨_,_,_,_,bl4,hq,⟨g0 1 [] t4 A2 B7 B7 A2,rfl,rfl,gok (by decide) (Nat.zero_le _) hO4 (E6 _ _) (F5 _ _) (F5 _ _) (E6 _ _)⟩,hk4,rfl⟩
theorem b8n {m:View} (hg:Glob m) (b:Nat) (a:Option Addr) (c:Nat) (ts:List Tok) (h hT:List Res) (hk:Tk2 m hT a c ts) (hs:hT.Sublist h):LnX m 150 [ptV b] b a c ts hT h (a6Z ts) (OG m):=by
 have hq:a6Z ts=if b0K ts then O2 (L6 ts) fun c r=>X6 5 [38] r fun r=>if isM 2 [83,75,73,80] r then .ok (guM 2 [] c A2 [] [] A2,r.tail) else a9c c r else a9c A2 ts:=rfl
 refine CX.body Tryz.call150 Tryz.func150 rfl Tryz.ntmps150 Lb rfl ?_;refine j0 ?_;refine xW fun b2=>?_
 refine kQ0 [0,2] ?_;refine kA1 ?_;refine xW fun b3=>?_
 refine kQ1 [0,2,3] ?_;refine kA1 ?_;refine xf (E1 Et) (c0c hg b a c ts _ hT Me hk (hs.trans Sb)) ?_;refine pD (lnR b a ts.length c) ?_;refine kP0 [0,2,3,6] ?_;refine H9 KKh [0,2,3] rfl (fun F' h'=>∃ tc:Ex,∃ bl:List Res,∃ x:Option Addr,∃ y:Nat,∃ r:List Tok,(EOk m bl tc/\Tk2 m hT x y r/\a6Z ts=a9c (B8 tc) r)/\F'=[]/\lnR b x r.length y::gR b3 (g0 3 [] tc A2 B7 B7 A2)::gR b2 (g0 0 [] A2 A2 B7 B7 A2)::(bl++h)=h') ?_ ?_;refine jE ?_;refine wc (fun c6=>?_) fun c6=>?_
 rw[if_pos c6] at hq;refine kA1 ?_;refine pD (lnR b a ts.length c) ?_;refine A0 Ef (E1 Et) (R8 hg b a c ts _ _ hk (hs.trans Sb)) Lb (fun v hv hx=>?_) fun v8 h8 hr8=>?_
 ·obtain⟨e,hx1,rfl,rfl⟩:=hx;rw[hx1] at hq;exact lnP Tryz.f150 hq Sb
 obtain⟨x8,r8,a8,u8,bl8,hM8,⟨t8,rfl,rfl,hO8⟩,hk8,rfl⟩:=hr8;refine WL.perm ((Mv.perm).cons _) ?_;rw[hM8,H3] at hq;refine kQ2 [0,2,3] ?_;refine kA1 ?_;refine xf (E1 Ek) (G5 _ _ _) ?_;refine xY A6 Eb fun b12=>?_
 refine pD (lnR b a8 r8.length u8) ?_;refine A0 Ef (E2 Et Et) (M9 b a8 u8 r8 _ _ _ _ _ hk8 (hs.trans Sb) (Rd.ofPt rfl (by decide) Me)) Lb (fun v hv hx=>?_) fun v13 h13 hr13=>?_
 ·obtain⟨hx1,rfl,rfl⟩:=hx;exact lnP Tryz.f150 (hq.trans (a3m hx1)) Sb
 obtain⟨hi13,a13,u13,hk13,rfl⟩:=hr13;rw[a2S hi13] at hq;refine kQ0 [0,2,3] ?_;refine kA1 ?_;refine xf (E1 Ek) (J5 _ _ _) ?_;refine pD (lnR b a13 r8.tail.length u13) ?_;refine xg (E2 Et Et) (K2 b a13 u13 r8.tail _ _ _ hk13 (hs.trans Sb)) ?_;rintro _ _ ⟨a16,u16,r16,rfl,he16,hk16,rfl⟩;refine kQ0 [0,2,3,16] ?_;refine wc (fun c16=>?_) fun c16=>?_
 replace he16:=he16.trans (if_pos c16);subst r16;rw[if_pos c16] at hq;refine kQ2 [2,3] ?_;refine kQ2 [2] ?_;refine xT (lnR b a16 r8.tail.tail.length u16::(bl8++h)) (h1:=cA a4Q) ?_;exact⟨_,_,_,_,bl8,hq,⟨g0 2 [] t8 A2 B7 B7 A2,rfl,rfl,gok (by decide) (Nat.zero_le _) hO8 (E6 _ _) (F5 _ _) (F5 _ _) (E6 _ _)⟩,hk16,rfl⟩;replace he16:=he16.trans (if_neg (G6 c16));subst r16;rw[if_neg (G6 c16)] at hq;refine WC.skip (C8 [] (h'':=lnR b a16 (r8.tail).length u16::gR b3 (g0 3 [] t8 A2 B7 B7 A2)::gR b2 (g0 0 [] A2 A2 B7 B7 A2)::(bl8++h)) ?_ Su Sb ⟨t8,bl8,a16,u16,r8.tail,⟨hO8,hk16,hq⟩,rfl,rfl⟩);exact Su;rw[if_neg (G6 c6)] at hq;refine WC.skip (C8 [] (h'':=lnR b a ts.length c::gR b3 (g0 3 [] A2 A2 B7 B7 A2)::gR b2 (g0 0 [] A2 A2 B7 B7 A2)::(([])++h)) ?_ Su Sb ⟨A2,[],a,c,ts,⟨E6 _ _,hk,hq⟩,rfl,rfl⟩);exact Su;rintro _ _ ⟨tc,bl,x,y,r,⟨hC,hk1,hq⟩,rfl,rfl⟩;refine B1 rfl ?_
 replace hq:a6Z ts=O2 (K6 r) fun ch r=>X6 5 [63] r fun r=>if isM 2 [65,70,84,69,82] r then O2 (L6 r.tail) fun t r=>.ok (guM 4 [] (B8 tc) ch [] [] t,r) else O2 (P0 K6 [59] 8 r) fun l r=>.ok (guM 3 [] (B8 tc) ch l [] A2,r):=hq
 refine kA1 ?_;refine pD (lnR b x r.length y) ?_;refine A0 Ef (E1 Et) (a0e hg b x y r _ _ hk1 (hs.trans Sb)) Lb (fun v hv hx=>?_) fun v20 h20 hr20=>?_
 ·obtain⟨e,hx1,rfl,rfl⟩:=hx;rw[hx1] at hq;exact lnP Tryz.f150 hq Sb
 obtain⟨x20,r20,a20,u20,bl20,hM20,⟨t20,rfl,rfl,hO20⟩,hk20,rfl⟩:=hr20;refine WL.perm ((Mv.perm).cons _) ?_;rw[hM20,H3] at hq;refine kQ2 [0,2,3] ?_;refine kA1 ?_;refine xf (E1 Ek) (G5 _ _ _) ?_;refine xY A6 Eb fun b24=>?_
 refine pD (lnR b a20 r20.length u20) ?_;refine A0 Ef (E2 Et Et) (M9 b a20 u20 r20 _ _ _ _ _ hk20 (hs.trans Sb) (Rd.ofPt rfl (by decide) Me)) Lb (fun v hv hx=>?_) fun v25 h25 hr25=>?_
 ·obtain⟨hx1,rfl,rfl⟩:=hx;exact lnP Tryz.f150 (hq.trans (a3m hx1)) Sb
 obtain⟨hi25,a25,u25,hk25,rfl⟩:=hr25;rw[a2S hi25] at hq;refine kQ0 [0,2,3] ?_;refine kA1 ?_;refine xf (E1 Ek) (J5 _ _ _) ?_;refine pD (lnR b a25 r20.tail.length u25) ?_;refine xg (E2 Et Et) (K2 b a25 u25 r20.tail _ _ _ hk25 (hs.trans Sb)) ?_;rintro _ _ ⟨a28,u28,r28,rfl,he28,hk28,rfl⟩;refine kQ0 [0,2,3,28] ?_;refine wc (fun c28=>?_) fun c28=>?_
 replace he28:=he28.trans (if_pos c28);subst r28;rw[if_pos c28] at hq;refine kA1 ?_;refine pD (lnR b a28 r20.tail.tail.length u28) ?_;refine A0 Ef (E1 Et) (R8 hg b a28 u28 r20.tail.tail _ _ hk28 (hs.trans Sb)) Lb (fun v hv hx=>?_) fun v30 h30 hr30=>?_
 ·obtain⟨e,hx1,rfl,rfl⟩:=hx;rw[hx1] at hq;exact lnP Tryz.f150 hq Sb
 obtain⟨x30,r30,a30,u30,bl30,hM30,⟨t30,rfl,rfl,hO30⟩,hk30,rfl⟩:=hr30;refine WL.perm ((Mv.perm).cons _) ?_;rw[hM30,H3] at hq;refine kQ4 [2,3] ?_;refine kQ2 [2] ?_;refine xT (lnR b a30 r30.length u30::(bl30++(bl20++(bl++h)))) (h1:=cA a4Q) ?_;exact⟨_,_,_,_,bl30++(bl20++bl),hq,⟨g0 4 [] tc t20 B7 B7 t30,rfl,rfl,gok (by decide) (Nat.zero_le _) (hC.mono (b7f _ _ _)) (hO20.mono (b7b _ _ _)) (F5 _ _) (F5 _ _) (hO30.mono (List.sublist_append_left _ _))⟩,hk30,by simp only[List.append_assoc]⟩;replace he28:=he28.trans (if_neg (G6 c28));subst r28;rw[if_neg (G6 c28)] at hq;refine kQ0 [0,2,3] ?_;refine kA2 ?_;refine xG (PO.makeFunc (E1 Et) Evs.nil) ?_;refine pD (lnR b a28 r20.tail.length u28) ?_;refine A0 Ef (E4 Et Ek Ek Et) (a0r 87 K6 [59] 8 b a28 u28 r20.tail _ _ hk28 (hs.trans Sb) (by decide) (fun a c ts h hk hs=>a0e hg b a c ts h _ hk hs)) Lb (fun v hv hx=>?_) fun v37 h37 hr37=>?_
 ·obtain⟨e,hx1,rfl,rfl⟩:=hx;rw[hx1] at hq;exact lnP Tryz.f150 hq Sb
 obtain⟨x37,r37,a37,u37,bl37,hM37,⟨s37,rfl,rfl,hO37⟩,hk37,rfl⟩:=hr37;refine WL.perm ((Mv.perm).cons _) ?_;rw[hM37,H3] at hq;refine kQ2 [2,3] ?_;refine kQ2 [2] ?_;refine xT (lnR b a37 r37.length u37::(bl37++(bl20++(bl++h)))) (h1:=cA a4Q) ?_;exact⟨_,_,_,_,bl37++(bl20++bl),hq,⟨g0 3 [] tc t20 s37 B7 A2,rfl,rfl,gok (by decide) (Nat.zero_le _) (hC.mono (b7f _ _ _)) (hO20.mono (b7b _ _ _)) (hO37.mono (List.sublist_append_left _ _)) (F5 _ _) (E6 _ _)⟩,hk37,by simp only[List.append_assoc]⟩
theorem c1K {m:View} (hg:Glob m) (b:Nat) (a:Option Addr) (c:Nat) (ts:List Tok) (h hT:List Res) (hk:Tk2 m hT a c ts) (hs:hT.Sublist h):LnX m 152 [ptV b] b a c ts hT h (b4k ts) (OG m):=by
 have hq:b4k ts=if isM 2 [69,76,83,69] ts then .ok (guM 6 [] A2 A2 [] [] A2,ts.tail) else O2 (P0 L6 [44] 8 ts) fun l r=>.ok (guM 5 [] A2 A2 [] l A2,r):=rfl
 refine CX.body Tryz.call152 Tryz.func152 rfl Tryz.ntmps152 Lb rfl ?_;refine j0 ?_;refine xW fun b2=>?_
 refine kQ0 [0,2] ?_;refine kA1 ?_;refine xf (E1 Ek) (J5 _ _ _) ?_;refine pD (lnR b a ts.length c) ?_;refine xg (E2 Et Et) (K2 b a c ts _ _ _ hk (hs.trans Sb)) ?_;rintro _ _ ⟨a5,u5,r5,rfl,he5,hk5,rfl⟩;refine kQ0 [0,2,5] ?_;refine wc (fun c5=>?_) fun c5=>?_
 replace he5:=he5.trans (if_pos c5);subst r5;rw[if_pos c5] at hq;refine kQ2 [2] ?_;refine xT (lnR b a5 ts.tail.length u5::h) (h1:=cA a4Q) ?_;exact⟨_,_,_,_,[],hq,⟨g0 6 [] A2 A2 B7 B7 A2,rfl,rfl,gok (by decide) (Nat.zero_le _) (E6 _ _) (E6 _ _) (F5 _ _) (F5 _ _) (E6 _ _)⟩,hk5,rfl⟩;replace he5:=he5.trans (if_neg (G6 c5));subst r5;rw[if_neg (G6 c5)] at hq;refine kQ0 [0,2] ?_;refine kA2 ?_;refine xG (PO.makeFunc (E1 Et) Evs.nil) ?_;refine pD (lnR b a5 ts.length u5) ?_;refine A0 Ef (E4 Et Ek Ek Et) (a0r 84 L6 [44] 8 b a5 u5 ts _ _ hk5 (hs.trans Sb) (by decide) (fun a c ts h hk hs=>R8 hg b a c ts h _ hk hs)) Lb (fun v hv hx=>?_) fun v10 h10 hr10=>?_
 ·obtain⟨e,hx1,rfl,rfl⟩:=hx;rw[hx1] at hq;exact lnP Tryz.f152 hq Sb
 obtain⟨x10,r10,a10,u10,bl10,hM10,⟨s10,rfl,rfl,hO10⟩,hk10,rfl⟩:=hr10;refine WL.perm ((Mv.perm).cons _) ?_;rw[hM10,H3] at hq;refine kQ2 [2] ?_;refine xT (lnR b a10 r10.length u10::(bl10++h)) (h1:=cA a4Q) ?_;exact⟨_,_,_,_,bl10,hq,⟨g0 5 [] A2 A2 B7 s10 A2,rfl,rfl,gok (by decide) (Nat.zero_le _) (E6 _ _) (E6 _ _) (F5 _ _) hO10 (E6 _ _)⟩,hk10,rfl⟩
theorem c1l {m:View} (hg:Glob m) (b:Nat) (a:Option Addr) (c:Nat) (ts:List Tok) (h hT:List Res) (hk:Tk2 m hT a c ts) (hs:hT.Sublist h):LnX m 102 [ptV b] b a c ts hT h (b1S ts) (OG m):=by
 have hq:b1S ts=O2 (U6 ts) fun n r=>if isM 5 [59] r then O2 (P0 K6 [59] 8 r.tail) fun l r=>.ok (guM 7 n A2 A2 l [] A2,r) else .ok (guM 7 n A2 A2 [] [] A2,r):=rfl
 refine CX.body Tryz.call102 Tryz.func102 rfl Tryz.ntmps102 Lb rfl ?_;refine j0 ?_;refine xW fun b2=>?_
 refine kQ0 [0,2] ?_;refine kA1 ?_;refine pD (lnR b a ts.length c) ?_;refine A0 Ef (E1 Et) (a0F b a c ts _ _ hk (hs.trans Sb)) Lb (fun v hv hx=>?_) fun v5 h5 hr5=>?_
 ·obtain⟨e,hx1,rfl,rfl⟩:=hx;rw[hx1] at hq;exact lnP Tryz.f102 hq Sb
 obtain⟨x5,r5,a5,u5,hM5,⟨rfl,hw5⟩,hk5,rfl⟩:=hr5;rw[hM5,H3] at hq;refine kA1 ?_;refine xW fun b3=>?_
 refine kQ1 [0,2,3] ?_;refine kA1 ?_;refine xf (E1 Ek) (G5 _ _ _) ?_;refine pD (lnR b a5 r5.length u5) ?_;refine xg (E2 Et Et) (K2 b a5 u5 r5 _ _ _ hk5 (hs.trans Sb)) ?_;rintro _ _ ⟨a9,u9,r9,rfl,he9,hk9,rfl⟩;refine kP0 [0,2,3,9] ?_;refine H9 KKh [2,3] rfl (fun F' h'=>∃ l:Sli Ex,∃ bl:List Res,∃ x:Option Addr,∃ y:Nat,∃ r:List Tok,(LOk m bl l/\Tk2 m hT x y r/\b1S ts=.ok (guM 7 x5 A2 A2 (l.l.map B8) [] A2,r))/\F'=[]/\lnR b x r.length y::gR b3 (g0 7 x5 A2 A2 l B7 A2)::gR b2 (g0 0 [] A2 A2 B7 B7 A2)::(bl++h)=h') ?_ ?_;refine jE ?_;refine wc (fun c9=>?_) fun c9=>?_
 replace he9:=he9.trans (if_pos c9);subst r9;rw[if_pos c9] at hq;refine kA2 ?_;refine xG (PO.makeFunc (E1 Et) Evs.nil) ?_;refine pD (lnR b a9 r5.tail.length u9) ?_;refine A0 Ef (E4 Et Ek Ek Et) (a0r 87 K6 [59] 8 b a9 u9 r5.tail _ _ hk9 (hs.trans Sb) (by decide) (fun a c ts h hk hs=>a0e hg b a c ts h _ hk hs)) Lb (fun v hv hx=>?_) fun v13 h13 hr13=>?_
 ·obtain⟨e,hx1,rfl,rfl⟩:=hx;rw[hx1] at hq;exact lnP Tryz.f102 hq Sb
 obtain⟨x13,r13,a13,u13,bl13,hM13,⟨s13,rfl,rfl,hO13⟩,hk13,rfl⟩:=hr13;refine WL.perm ((Mv.perm).cons _) ?_;rw[hM13,H3] at hq;refine kA2 ?_;refine WL.nil (C8 [] (h'':=lnR b a13 r13.length u13::gR b3 (g0 7 x5 A2 A2 s13 B7 A2)::gR b2 (g0 0 [] A2 A2 B7 B7 A2)::(bl13++h)) ?_ Su Sb ⟨s13,bl13,a13,u13,r13,⟨hO13,hk13,hq⟩,rfl,rfl⟩);exact Su;replace he9:=he9.trans (if_neg (G6 c9));subst r9;rw[if_neg (G6 c9)] at hq;refine WC.skip (C8 [] (h'':=lnR b a9 r5.length u9::gR b3 (g0 7 x5 A2 A2 B7 B7 A2)::gR b2 (g0 0 [] A2 A2 B7 B7 A2)::(([])++h)) ?_ Su Sb ⟨B7,[],a9,u9,r5,⟨F5 _ _,hk9,hq⟩,rfl,rfl⟩);exact Su;rintro _ _ ⟨l,bl,x,y,r,⟨hL,hk1,hq⟩,rfl,rfl⟩;refine B1 rfl ?_;refine kQ2 [2] ?_;refine xT (lnR b x r.length y::(bl++h)) (h1:=cA a4Q) ?_;exact⟨_,_,_,_,bl,hq,⟨g0 7 x5 A2 A2 l B7 A2,rfl,rfl,gok (by decide) hw5 (E6 _ _) (E6 _ _) hL (F5 _ _) (E6 _ _)⟩,hk1,rfl⟩
end
section
open Go.Eng Go.Lx Go.Ty
theorem b9l (b:Nat) (line:B) (p:Nat) (h:List Res) (m:View) (hr:rdr b line p ∈ h) (hp:p < line.length) (hs:line.length<=140737488355328):CT Tryz.prog 158 [.pointer (some ⟨b,0,none⟩)] h m (A3 h (tkR (Z7 (line.drop p)))):=by
 have hl0:(line.drop p).length=line.length - p:=List.length_drop;have hl':((line.drop p).drop 1).length<=9223372036854775807:=by rw[List.length_drop];omega
 have hl2:((line.drop p).drop 1).length<=140737488355328:=by rw[List.length_drop];omega
 have hle:=b1z ((line.drop p).drop 1);generalize hs0:(line.drop p).drop 1=s at *;have hq:(K0 s).2 < s.length->s[(K0 s).2]?=some (s.getD (K0 s).2 0):=fun hi=>by rw[List.getD_eq_getElem?_getD,List.getElem?_eq_getElem hi];rfl
 refine CT.body Tryz.call158 Tryz.func158 rfl Tryz.ntmps158 Lb rfl ?_;refine j0 ?_;refine xW fun b2=>?_
 refine kQ1 [0,2] ?_;refine kA1 ?_;refine xf (E1 Et) (a0I b line p _ _ (List.Mem.tail _ hr) (by omega)) ?_;refine xG (a4w uu9 Et Ek (l:=1) rfl (by omega)) ?_;refine WL.val (v':=str s) (congrArg str hs0) ?_;refine kQ1 [2,4] ?_;refine kA1 ?_;refine xf (E1 Et) (b9i s _ _ hl') ?_;refine kQ5 [2,4,5,6] ?_;refine kA5 ?_;refine zG (fun hc=>L2 uu9 (Eg hc)) ?_;refine kA5 ?_;refine F6 (GU.f rfl rfl) (fun hc=>I7 uu9 (Eg hc) (Eg hc) rfl (hq (by simp at hc;omega))) Lb ?_;refine kQ2 [2,5,6,28] ?_;refine wc (fun c28=>?_) fun c28=>?_
 have d28:noQ s (K0 s).2=true:=c28;refine kQ3 [2,3] ?_;refine w2 h (h1:=cA H2) ?_;exact⟨by unfold Z7;rw[hs0,d28];rfl,rfl⟩;have d28:noQ s (K0 s).2=false:=c28;refine kQ0 [2,5,6] ?_;refine kQ6 [2,3] ?_;refine w2 h (h1:=cA H2) ?_;exact⟨by unfold Z7;rw[hs0,d28];rfl,rfl⟩
theorem b9I (b:Nat) (line:B) (p:Nat) (h:List Res) (m:View) (hg:Glob m) (hr:rdr b line p ∈ h) (hp:p<=line.length) (hs:line.length<=140737488355328):CT Tryz.prog 159 [.pointer (some ⟨b,0,none⟩)] h m (A3 h (tkR (a5U (line.drop p)))):=by
 have hl:(line.drop p).length<=140737488355328:=by rw[List.length_drop];omega
 have hE:=b6a (line.drop p);refine CT.body Tryz.call159 Tryz.func159 rfl Tryz.ntmps159 Lb rfl ?_;refine j0 ?_;refine xW fun b2=>?_
 refine kQ1 [0,2] ?_;refine kA1 ?_;refine xf (E1 Et) (a0I b line p _ _ (List.Mem.tail _ hr) hp) ?_;refine xG (L2 uu9 Et) ?_;refine xG (PO.min Ek Et) ?_;refine WL.val (v':=.int .i64 ((min 2 (line.drop p).length:Nat):Int)) (congrArg (Value.int .i64) (by omega)) ?_;refine kQ1 [0,2,4] ?_;refine B0 [0,2] rfl (fun μ F' h'=>∃ k:Nat,((k<=2/\k<=(line.drop p).length)/\a5U (line.drop p)=a7H (line.drop p) k)/\k=μ/\F'=[(4,.int .i64 k)]/\.pt b2 (.cells (B2 zeroK).toArray 120 (0,0))::h=h') (((min 2 (line.drop p).length:Nat))) [(4,.int .i64 ((min 2 (line.drop p).length:Nat)))] (h0:=.pt b2 (.cells (B2 zeroK).toArray 120 (0,0))::h) ?_ Sb ⟨(min 2 (line.drop p).length:Nat),⟨by omega,hE⟩,rfl,rfl,rfl⟩ ?_;exact Su;rintro _ _ _ ⟨k,⟨hk,hJ⟩,rfl,rfl,rfl⟩;refine B1 rfl ?_;refine kQ2 [0,2,4,11] ?_;refine wc (fun c11=>?_) fun c11=>?_
 replace c11:=dT c11;obtain⟨j,rfl⟩:∃ j,k=j+1:=⟨k - 1,by omega⟩;rw[a7H] at hJ;refine kQ0 [0,2,4] ?_;refine kA1 ?_;refine xf (E1 Et) (a0I b line p _ _ (List.Mem.tail _ hr) hp) ?_;refine kA1 ?_;refine xG (a4r uu9 Et Et rfl (by omega)) ?_;refine kQ1 [0,2,4,5] ?_;refine kA1 ?_;refine xf (E1 Et) (b1I _ _ _ hg) ?_;refine kQ0 [0,2,4,5,19] ?_;refine wc (fun c19=>?_) fun c19=>?_
 rw[c19] at hJ;refine kQ5 [2,3] ?_;refine w2 h (h1:=cA H2) ?_;exact⟨by rw[hJ];rfl,rfl⟩;rw[c19] at hJ;refine kQ0 [0,2,4] ?_;refine kA1 ?_;refine xG (U0 Et Ek (by omega)) ?_;refine kA1 ?_;refine WL.nil (A4 (j) [(4,.int .i64 j)] (h'':=.pt b2 (.cells (B2 zeroK).toArray 120 (0,0))::h) (by omega) ?_ Su Sb ⟨j,⟨by omega,by simpa using hJ⟩,rfl,rfl,rfl⟩);exact Su;replace c11:=dF c11;have e:k=0:=by omega
 subst e;refine kQ0 [2] ?_;refine kQ3 [2,3] ?_;refine w2 h (h1:=cA H2) ?_;exact⟨by rw[hJ];rfl,rfl⟩
def nxF (c:UInt8):FuncId:=if ltr c.toNat then 154 else if dig c.toNat then 156 else if (c.toNat:Int)==35 then 157 else if (c.toNat:Int)==39 then 158 else 159
theorem b4g (b:Nat) (line:B) (p:Nat) (c:UInt8) (h:List Res) (m:View) (hr:rdr b line p ∈ h) (hc:line[p]?=some c):CT Tryz.prog 103 [.pointer (some ⟨b,0,none⟩)] h m (A3 h (.func (.func (nxF c)) #[.pointer (some ⟨b,0,none⟩)] #[])):=by
 have hp:p < line.length:=(List.getElem?_eq_some_iff.1 hc).1;refine CT.body Tryz.call103 Tryz.func103 rfl Tryz.ntmps103 Lb rfl ?_;refine kQ1 [0] ?_;refine dS [] (.op 0 (.op 1 (.op 2 (.op 3 (.op 4 (.op 5 (.op 6 (.op 7 .nil)))))))) [8,9] D6 ?_;refine kA3 ?_;refine yG rfl (D0 uu9 rfl Et hr rfl) ?_;refine kA3 ?_;refine yG rfl (D0 uu3 rfl Et hr rfl) ?_;refine SR.nil rfl rfl ?_;refine xG (I7 uu9 Et Et rfl (by assumption)) ?_;refine kQ1 [0,3] ?_;refine kA1 ?_;refine xf (E1 Et) (a3Z _ _ _) ?_;refine kQ1 [0,3,13] ?_;refine wc (fun c13=>?_) fun c13=>?_
 refine kA1 ?_;refine xG (PO.makeFunc (E1 Et) Evs.nil) ?_;refine kQ1 [2] ?_;refine wT h ?_;exact⟨by unfold nxF;rw[c13];rfl,rfl⟩;refine kA1 ?_;refine xf (E1 Et) (a7B _ _ _) ?_;refine kQ1 [0,3,18] ?_;refine wc (fun c18=>?_) fun c18=>?_
 refine kA1 ?_;refine xG (PO.makeFunc (E1 Et) Evs.nil) ?_;refine kQ1 [2] ?_;refine wT h ?_;exact⟨by unfold nxF;rw[c13,c18];rfl,rfl⟩;refine kQ3 [0,3,23] ?_;refine wc (fun c23=>?_) fun c23=>?_
 refine kA1 ?_;refine xG (PO.makeFunc (E1 Et) Evs.nil) ?_;refine kQ1 [2] ?_;refine wT h ?_;exact⟨by unfold nxF;rw[c13,c18,c23];rfl,rfl⟩;refine kQ3 [0,28] ?_;refine wc (fun c28=>?_) fun c28=>?_
 refine kA1 ?_;refine xG (PO.makeFunc (E1 Et) Evs.nil) ?_;refine kQ1 [2] ?_;refine wT h ?_;exact⟨by unfold nxF;rw[c13,c18,c23,c28];rfl,rfl⟩;refine kQ0 [0] ?_;refine kA1 ?_;refine xG (PO.makeFunc (E1 Et) Evs.nil) ?_;refine kQ1 [2] ?_;refine wT h ?_;exact⟨by unfold nxF;rw[c13,c18,c23,c28];rfl,rfl⟩
theorem b9k (b:Nat) (line:B) (p:Nat) (c:UInt8) (h:List Res) (m:View) (hg:Glob m) (hr:rdr b line p ∈ h) (hc:line[p]?=some c) (hs:line.length<=140737488355328):CT Tryz.prog (nxF c) [.pointer (some ⟨b,0,none⟩)] h m (A3 h (tkR (tok (line.drop p)))):=by
 have hp:p < line.length:=(List.getElem?_eq_some_iff.1 hc).1;have e0:chB (line.drop p) 0=(c.toNat:Int):=a9L (by rw[List.getElem?_drop];simpa using hc);unfold nxF tok;rw[e0];split
 ·exact b4V b line p h m hg hr (by omega) hs
 ·split
  ·exact c2L b line p h m hr (by omega) hs
  ·split
   ·exact c2y b line p h m hr hp hs
   ·split
    ·exact b9l b line p h m hr hp hs
    ·exact b9I b line p h m hg hr (by omega) hs
def c4s (h:List Res) (o:List Tok × Int × Int):Value->View->List Res->Prop:=fun v _ h'=>∃ a c,v=.tuple #[.slice a o.1.length c,.int .i64 o.2.1,.int .i64 o.2.2]/\h'=.row (.slice a o.1.length c) 120 4 o.1.length (fl B2 o.1)::h
theorem b1t (line:B) (h:List Res) (m:View) (hg:Glob m) (hs:line.length<=140737488355328):CT Tryz.prog 52 [str line] h m (c4s h (lexO line)):=by
 refine CT.body Tryz.call52 Tryz.func52 rfl Tryz.ntmps52 Lb rfl ?_;refine j0 ?_;refine WL.addNil 120 4 ?_;refine kQ3 [0,2] ?_;refine kA1 ?_;refine xG (L2 uu9 Et) ?_;refine kQ1 [0,2,10] ?_;refine wc (fun c10=>?_) fun c10=>?_
 refine kQ3 [2,3,4] ?_;refine WC.ret (a8e (h':=.row (.slice none 0 0) 120 4 0 []::h) (.inl rfl) rfl (RV.tmp rfl) (RV.tmp rfl) (RV.tmp rfl) Vl Sb ?_);exact⟨none,0,by rw[a3Q c10];rfl,by rw[a3Q c10];rfl⟩;have h256:line.length<=256:=by have:=of_decide_eq_false c10;omega
 have hO:=a4q c10;refine kQ0 [0,2] ?_;refine kA2 ?_;refine xX fun b13=>?_
 refine kQ1 [0,2,5] ?_;refine B0 [0,5] rfl (fun μ F' h'=>∃ p:Nat,∃ n:Nat,∃ l:List Tok,∃ a:Option Addr,∃ c:Nat,((p<=line.length/\n<=p/\l.length=n)/\lx line 0=a4R l (lx (line.drop p) p))/\line.length - p=μ/\F'=[(2,.slice a n c)]/\rdr b13 line p::.row (.slice a n c) 120 4 n (fl B2 l)::h=h') (line.length - 0) [(2,.slice none 0 0)] (h0:=rdr b13 line 0::.row (.slice none 0 0) 120 4 0 (fl B2 ([]))::h) ?_ Sb ⟨0,0,[],none,0,⟨⟨by omega,by decide,rfl⟩,by rw[b8F];rfl⟩,rfl,rfl,rfl⟩ ?_;exact Su;rintro _ _ _ ⟨p,n,l,a,c,⟨⟨hp,hnp,hl⟩,hJ⟩,rfl,rfl,rfl⟩;refine B1 rfl ?_;refine kA5 ?_;refine xG (L2 uu9 Et) ?_;refine kQ1 [0,2,5,20] ?_;refine wc (fun c20=>?_) fun c20=>?_
 replace c20:=dT c20;obtain⟨x,hx⟩:=A5 (l:=line) (k:=p) (by omega);refine kQ0 [0,2,5] ?_;refine kA5 ?_;refine xG (I7 uu9 Et Et rfl (by assumption)) ?_;refine kQ1 [0,2,5,27] ?_;refine wc (fun c27=>?_) fun c27=>?_
 rw[b4b] at c27;have hx32:line[p]?=some 32:=by rw[hx,eq_of_beq c27]
 refine kQ8 [0,2,5] ?_;refine WC.exit (A4 (line.length - (p+1)) [(2,.slice a n c)] (h'':=rdr b13 line (p+1)::.row (.slice a n c) 120 4 n (fl B2 l)::h) (by omega) ?_ Su Sb ⟨p+1,n,l,a,c,⟨⟨by omega,by omega,hl⟩,b2i hx32 hJ⟩,rfl,rfl,rfl⟩);exact Su;rw[b4b] at c27;have hne:x≠32:=by simpa using c27
 have hn:=b2n (line.drop p);rw[List.length_drop] at hn;refine kQ0 [0,2,5] ?_;refine kA1 ?_;refine xf (E1 Et) (b4g b13 line p x _ _ Me hx) ?_;refine M4 (Ev.tmp rfl) Evs.nil (b9k b13 line p x _ _ hg Me hx hs) Lb ?_;refine kA3 ?_;refine xW fun b6=>?_
 refine kQ2 [0,2,5,6,7] ?_;refine kQ2 [0,2,5,6,7,42] ?_;refine wc (fun c42=>?_) fun c42=>?_
 have hn0:(tok (line.drop p)).2=0:=by simp at c42;omega
 have hE:=b8y hx hne hn0 hJ;refine jE ?_;refine dS [] (.op 0 (.op 1 (.op 2 (.op 3 (.op 4 .nil))))) [5,6] D6 ?_;refine kA4 ?_;refine yG rfl (PO.assign Ek) ?_;refine SR.nil rfl rfl ?_;refine WL.addNil 120 4 ?_;refine kQ2 [2,3,4] ?_;refine WC.ret (a8e (h':=.row (.slice none 0 0) 120 4 0 []::h) (.inl rfl) rfl (RV.tmp rfl) (RV.tmp rfl) (RV.tmp rfl) Vl Sb ?_);exact⟨none,0,by rw[hO,hE];rfl,by rw[hO,hE];rfl⟩;have hn0:(tok (line.drop p)).2≠0:=by simp at c42;omega
 have hE:=b6C hx hne hn0 hJ;refine kQ0 [0,2,5,6,7] ?_;refine kQ6 [0,2,5,6,7] ?_;refine kA2 ?_;refine xY A6 Eb fun b54=>?_
 refine xD A6 (Ev.tmp rfl) (Ev.tmp rfl) rfl (E9 (enc:=B2) _ ({ (tok (line.drop p)).1 with at_:=p })) fun a55 c55=>?_
 refine kQ1 [0,2,5,7] ?_;refine kA5 ?_;refine xG (M2 Et Et (by omega)) ?_;refine kA3 ?_;refine WL.nil (A4 (line.length - (p+(tok (line.drop p)).2)) [(2,.slice a55 (n+1) c55)] (h'':=rdr b13 line (p+(tok (line.drop p)).2)::.row (.slice a55 (n+1) c55) 120 4 (n+1) (fl B2 (l++[{ (tok (line.drop p)).1 with at_:=p }]))::h) (by omega) ?_ Su Sb ⟨p+(tok (line.drop p)).2,n+1,l++[{ (tok (line.drop p)).1 with at_:=p }],a55,c55,⟨⟨by omega,by omega,by rw[List.length_append,List.length_singleton,hl]⟩,hE⟩,rfl,rfl,rfl⟩);exact Su;replace c20:=dF c20;rw[List.drop_eq_nil_of_le (by omega),c1y] at hJ;have hE:lx line 0=.ok l:=by rw[hJ];simp[a4R]
 subst hl;refine kQ0 [2] ?_;refine kQ4 [2,3,4] ?_;refine WC.ret (a8e (h':=.row (.slice a l.length c) 120 4 l.length (fl B2 l)::h) (.inl rfl) rfl (RV.tmp rfl) (RV.tmp rfl) (RV.tmp rfl) Vl Sb ?_);exact⟨a,c,by rw[hO,hE];rfl,by rw[hO,hE];rfl⟩
end
section
open Go.Eng Go.Pc Go.Sx Go
open Go.Xp hiding B D5
open Go.Ty (Ty Vr Tok eqT tyV I4 B2 B4 R1 zeroK L7 D3)
open Go.Lx (encB C4 lexO)
open Go.Ly (Rw O6 G8)
abbrev psR (z:Pz) (i:Nat):Res:=.pt z.bp (.cells [.slice z.ra z.R.length z.rc,.int .i64 (i:Nat)].toArray 63 (0,0))
abbrev tkW (a:Option Addr) (c:Nat) (ts:List Tok):Res:=.row (.slice a ts.length c) 120 4 ts.length (fl B2 ts)
abbrev prR (b:Nat) (p:Pr):Res:=.pt b (.cells (prE p).toArray 46 (0,0))
abbrev PrE {β:Type} (z:Pz) (M:Except (Int × Nat) β) (h:List Res) (v:Value) (h':List Res):Prop:=∃ e j,M=.error (e,j)/\v=wrV e/\h'=psR z j::h
abbrev PrX {α:Type} (m:View) (z:Pz) (f:FuncId) (args:List Value) (i:Nat) (h0 h:List Res) (M:PE α) (O:α->Value->List Res->Prop):Prop:=
 CX Tryz.prog f args (psR z i::h0) m (fun v _ h'=>∃ x j bl,M=.ok (x,j)/\(i < j/\j<=z.R.length)/\O x v bl/\h'=psR z j::(bl++h)) (fun v h'=>PrE z M h v h')
abbrev OP (m:View) (x:Pr) (v:Value) (bl:List Res):Prop:=∃ p,v=prV p/\stP p=x/\POk m bl p
abbrev OGs (m:View) (x:List Gu) (v:Value) (bl:List Res):Prop:=∃ a c l,v=.slice a l.length c/\l.map stG=x/\Gs m bl a c l
theorem F4 {x:Res} {l:List Res} (h:x ∈ l):[x].Sublist l:=List.singleton_sublist.2 h
theorem prP {β:Type} (fn:Func) {n:Cx} {F:Fm} {H h:List Res} {m:View} {z:Pz} {R:Value->View->List Res->Prop} {M:Except (Int × Nat) β} {e:Int} {j:Nat} (hq:M=.error (e,j)) (hd:(psR z j::h).Sublist H) (hds:n.ds=[]:=by rfl) :
 ∀ a w,Fr n F a->St m H w->bodyPost Tryz.prog fn (RX m R (fun v h'=>PrE z M h v h')) (.panic [{ v:=wrV e,recovered:=false }]) a w:=a1d (psR z j::h) Vl hd ⟨e,j,hq,rfl,rfl⟩ hds
theorem a4S {m:View} {z:Pz} (hz:Pok m z) (i:Nat) (d:Int) (h:List Res) (hb:psR z i ∈ h):CT Tryz.prog 53 [ptV z.bp,.int .i64 d] h m (A3 h (.bool (O3 z.R d i))):=by
 have hrd:=hz.rd.mono Vl (List.nil_sublist h);obtain⟨x,hx⟩:∃ x,x=z.R.getD i ⟨0,0,[]⟩:=⟨_,rfl⟩;have hel:i < z.R.length->z.R[i]?=some x:=fun hq=>by rw[hx,List.getD_eq_getElem?_getD,List.getElem?_eq_getElem hq];rfl
 have hH:O3 z.R d i=(decide ((i:Int) < z.R.length)&&(x.depth==d)):=by
  unfold O3;by_cases hq:i < z.R.length
  ·rw[hel hq,decide_eq_true (by omega:(i:Int) < z.R.length)];rfl
  ·rw[List.getElem?_eq_none (by omega),decide_eq_false (by omega:¬ (i:Int) < z.R.length)];rfl
 refine CT.body Tryz.call53 Tryz.func53 rfl Tryz.ntmps53 Lb rfl ?_;refine kQ1 [0,1] ?_;refine dS [] (.op 0 (.op 1 (.op 2 (.op 3 (.op 4 (.op 5 (.op 6 (.op 7 (.op 8 (.op 9 (.op 10 (.op 11 (.op 12 (.op 13 (.op 14 (.op 15 (.op 16 (.op 17 (.op 18 (.op 19 (.op 20 (.op 21 (.op 22 .nil))))))))))))))))))))))) [23,24,25] D6 ?_;refine kA3 ?_;refine yG rfl (D0 uu3 rfl Et hb rfl) ?_;refine kA3 ?_;refine yG rfl (D0 b1T rfl Et hb rfl) ?_;refine yG rfl (S4 b1T Et) ?_;refine yG rfl (O0 Et Et rfl) ?_;refine kA1 ?_;refine B6 rfl rfl (GU.t rfl rfl) (fun hc=>PO.move Et) Lb ?_;refine B6 rfl rfl (GU.t rfl rfl) (fun hc=>PO.nilCheck (Eg hc)) Lb ?_;refine B6 rfl rfl (GU.t rfl rfl) (fun hc=>PO.fieldAddr c2n rfl (Nat.ne_of_beq_eq_false rfl) (Eg hc)) Lb ?_;refine B6 rfl rfl (GU.t rfl rfl) (fun hc=>D0 b1T rfl (Eg hc) hb rfl) Lb ?_;refine B6 rfl rfl (GU.t rfl rfl) (fun hc=>PO.move Et) Lb ?_
 refine B6 rfl rfl (GU.t rfl rfl) (fun hc=>PO.nilCheck (Eg hc)) Lb ?_;refine B6 rfl rfl (GU.t rfl rfl) (fun hc=>PO.fieldAddr c2n rfl (Nat.ne_of_beq_eq_false rfl) (Eg hc)) Lb ?_;refine B6 rfl rfl (GU.t rfl rfl) (fun hc=>D0 uu3 rfl (Eg hc) hb rfl) Lb ?_;refine B6 rfl rfl (GU.t rfl rfl) (fun hc=>G1 a4K.und a4K.size a4K.posz (Eg hc) (Eg hc) Rr rfl (by simp at hc;omega)) Lb ?_;refine B6 rfl rfl (GU.t rfl rfl) (fun hc=>H4 b9p rfl (Nat.ne_of_beq_eq_false rfl) G8 (Nat.succ_pos _) Rr (hel (by simp at hc;omega)) (Eg hc)) Lb ?_;refine B6 rfl rfl (GU.t rfl rfl) (fun hc=>H5 uu3 rfl G8 Rr (Eg hc) (hel (by simp at hc;omega)) rfl) Lb ?_;refine B6 rfl rfl (GU.t rfl rfl) (fun hc=>PO.move Et) Lb ?_;refine SR.nil rfl rfl ?_;refine kQ3 [4] ?_;refine wT h ?_;exact⟨by rw[hH],rfl⟩
theorem b7I {m:View} (hg:Glob m) (line:B) (h:List Res) (hs:line.length<=140737488355328):CX Tryz.prog 52 [str line] h m (fun v _ h'=>∃ hp',h'=hp'++h/\∃ a c,v=.tuple #[.slice a (lexO line).1.length c,.int .i64 (lexO line).2.1,.int .i64 (lexO line).2.2]/\hp'=[tkW a c (lexO line).1]) (fun _ _=>False):=
 CX.ofCT (CT.conv (b1t line h m hg hs) fun _ m' _ _ _ st ⟨a,c,e1,e2⟩=>⟨m',[tkW a c (lexO line).1]++h,Vl,by rw[e2] at st;exact st,_,rfl,a,c,e1,rfl⟩)
theorem a2p {m:View} (hg:Glob m) {z:Pz} (hz:Pok m z) (i:Nat) (d:Int) (h:List Res) (hi:i<=z.R.length):CX Tryz.prog 30 [ptV z.bp,.int .i64 d] (psR z i::h) m
 (fun v _ h'=>∃ ts b a c,a0p z.R d i=.ok ts/\v=ptV b/\Tk2 m [tkW a c ts] a c ts/\h'=lnR b a ts.length c::tkW a c ts::psR z i::h) (fun v h'=>PrE z (a0p z.R d i) h v h'):=by
 have hrd:=hz.rd.mono Vl (List.nil_sublist (psR z i::h));obtain⟨x,hx⟩:∃ x,x=z.R.getD i ⟨0,0,[]⟩:=⟨_,rfl⟩;have hel:i < z.R.length->z.R[i]?=some x:=fun hq=>by rw[hx,List.getD_eq_getElem?_getD,List.getElem?_eq_getElem hq];rfl
 have hq:a0p z.R d i=if i < z.R.length then (if (lexO x.text).2.2≠0 then .error ((lexO x.text).2.2,i) else if x.depth≠d then .error (110,i) else .ok (lexO x.text).1) else .error (110,i):=by
  by_cases hq:i < z.R.length
  ·rw[if_pos hq];unfold a0p;rw[hel hq]
  ·rw[if_neg hq];exact a2k (by omega)
 have hH:i < z.R.length->O3 z.R d i=(x.depth==d):=fun hq=>by unfold O3;rw[hel hq]
 refine CX.body Tryz.call30 Tryz.func30 rfl Tryz.ntmps30 Lb rfl ?_;refine kQ1 [0,1] ?_;refine dS [] (.op 0 (.op 1 (.op 2 (.op 3 (.op 4 (.op 5 (.op 6 (.op 7 (.op 8 .nil))))))))) [9] D6 ?_;refine kA8 ?_;refine yG rfl (S4 b1T Et) ?_;refine SR.nil rfl rfl ?_;refine kQ1 [0,1,17] ?_;refine wc (fun c17=>?_) fun c17=>?_
 replace c17:=F9 c17;rw[if_neg (by omega)] at hq;refine j0 ?_;refine A0 Ef Evs.nil (H8 _ _) Lb (fun v hv hx=>?_) fun v18 h18 hr18=>?_
 ·obtain⟨rfl,rfl⟩:=hx;exact prP Tryz.f30 hq Sb
 exact hr18.elim;replace c17:=F7 c17;have hi2:i < z.R.length:=by omega
 rw[if_pos hi2] at hq;have hel:=hel hi2;have hH:=hH hi2;have htx:=(hz.ok.2 x (List.mem_of_getElem? hel)).2.2;refine kQ0 [0,1] ?_;refine F2 [11] (.op 0 (.op 1 (.op 2 (.op 3 (.op 4 (.op 5 (.op 6 (.op 7 (.op 8 (.op 9 (.op 10 (.op 11 (.op 12 (.op 13 (.op 14 (.op 15 .nil)))))))))))))))) [16,17,18] _ [] D6 (fun _ _ _ _ _ h=>h) [14,15] (by kernel_rfl) ?_;refine kA8 ?_;refine yG rfl (G1 a4K.und a4K.size a4K.posz (Ev.tmp rfl) (Ev.tmp rfl) Rr rfl (q:=i) (by omega)) ?_;refine kA2 ?_;refine a1e rfl rfl Ef (E1 Et) (fun fr=>b7I hg x.text _ (by omega)) Lb (fun fr v hv hx=>?_) fun v31 h31 hr31=>?_
 ·exact hx.elim
 obtain⟨a31,c31,rfl,rfl⟩:=hr31;refine kA1 ?_;refine yG rfl (PO.extract Et rfl) ?_;refine yG rfl (PO.extract Et rfl) ?_;refine yG rfl (PO.extract Et rfl) ?_;refine SR.nil rfl rfl ?_;refine kQ3 [0,1,5,7] ?_;refine kQ2 [0,1,5,7,36] ?_;refine wc (fun c36=>?_) fun c36=>?_
 replace c36:=a1i c36;rw[if_pos c36] at hq;refine kA2 ?_;refine xG (U2 c0F Et) ?_;refine WL.panic Et (a1d (P:=Tryz.prog) (fn:=Tryz.f30) (psR z i::h) Vl Sb ?_);exact⟨_,_,hq,rfl,rfl⟩;replace c36:=a0U c36;rw[if_neg (by omega)] at hq;refine kQ0 [0,1,5] ?_;refine kA2 ?_;refine xf (E2 Et Et) (CT.val (a4S hz i d _ Me) (congrArg Value.bool hH)) ?_;refine kQ1 [5,43] ?_;refine wc (fun c43=>?_) fun c43=>?_
 have d43:x.depth≠d:=by simpa using c43
 rw[if_pos d43] at hq;refine j0 ?_;refine A0 Ef Evs.nil (H8 _ _) Lb (fun v hv hx=>?_) fun v44 h44 hr44=>?_
 ·obtain⟨rfl,rfl⟩:=hx;exact prP Tryz.f30 hq Sb
 exact hr44.elim;have d43:x.depth=d:=by simpa using c43
 rw[if_neg (by rw[d43];exact fun q=>q rfl)] at hq;have hb:=a6C x.text;refine O8 (a:=a31) Me fun p31 q31 r31=>?_
 refine kQ0 [5] ?_;refine kA2 ?_;refine xX fun b47=>?_
 refine kQ1 [4] ?_;refine xT (lnR b47 a31 (lexO x.text).1.length c31::tkW a31 c31 (lexO x.text).1::psR z i::h) ?_;exact⟨(lexO x.text).1,b47,a31,c31,hq,rfl,⟨⟨Rd.inRow (List.Mem.head _) r31 p31 q31,by omega,b91 _⟩,fun t ht=>(hb.2 t ht).2⟩,rfl⟩
theorem K5 {m:View} {z:Pz} (hz:Pok m z) (i:Nat) (b:Nat) (a:Option Addr) (c:Nat) (ts:List Tok) (h:List Res) (hi:i<=z.R.length):CX Tryz.prog 79 [ptV z.bp,ptV b] (psR z i::lnR b a ts.length c::h) m
 (fun _ _ h'=>ts=[]/\h'=psR z (i+1)::h) (fun v h'=>ts≠[]/\v=wrV 110/\h'=psR z i::h):=by
 have hR:=hz.ok.1;refine CX.body Tryz.call79 Tryz.func79 rfl Tryz.ntmps79 Lb rfl ?_;refine kQ6 [0,9] ?_;refine wc (fun c9=>?_) fun c9=>?_
 replace c9:=dT c9;refine j0 ?_;refine A0 Ef Evs.nil (H8 _ _) Lb (fun v hv hx=>?_) fun v10 h10 hr10=>?_
 ·obtain⟨rfl,rfl⟩:=hx
  exact a1d (P:=Tryz.prog) (fn:=Tryz.f79) (psR z i::h) Vl Sb ⟨by rintro rfl;simp at c9,rfl,rfl⟩
 exact hr10.elim;replace c9:=dF c9;refine kQ0 [0] ?_;refine kA5 ?_;refine WL.val (v':=.int .i64 ((i+1:Nat):Int)) (congrArg (Value.int .i64) (by omega)) ?_;refine kA3 ?_;refine WL.nil (toX (.inr rfl) (a9h (h':=psR z (i+1)::h) (.inr rfl) rfl  Vl Sb ?_));exact⟨List.eq_nil_of_length_eq_zero (by omega),rfl⟩
theorem b05 {m:View} (hg:Glob m) {z:Pz} (hz:Pok m z) (i:Nat) (d:Int) (u:Tok) (a1:Option Addr) (c1:Nat) (h:List Res) (hi:i<=z.R.length) (hu:Rd m h a1 1 c1 4 (fl B2 [u])) :
 CX Tryz.prog 80 [ptV z.bp,.int .i64 d,.slice a1 1 c1] (psR z i::h) m
 (fun _ _ h'=>i < z.R.length/\(∀ (β:Type) (f:Nat->PE β),a2g z.R d u.kind u.text i f=f (i+1))/\h'=psR z (i+1)::h) (fun v h'=>∃ e,(∀ (β:Type) (f:Nat->PE β),a2g z.R d u.kind u.text i f=.error (e,i))/\v=wrV e/\h'=psR z i::h):=by
 have hR:=hz.ok.1;have hq:∀ (β:Type) (f:Nat->PE β),a2g z.R d u.kind u.text i f=a0C z.R d i fun ts=>U8 u.kind u.text ts i fun r=>F1 r i f:=fun _ _=>rfl
 refine CX.body Tryz.call80 Tryz.func80 rfl Tryz.ntmps80 Lb rfl ?_;refine kA2 ?_;refine pD (psR z i) ?_;refine A0 Ef (E2 Et Et) (a2p hg hz i _ _ (by omega)) Lb (fun v hv hx=>?_) fun v9 h9 hr9=>?_
 ·obtain⟨e,j,hx1,rfl,rfl⟩:=hx
  obtain rfl:i=j:=by
   unfold a0p at hx1;split at hx1
   ·cases hx1;rfl
   ·split at hx1
    ·cases hx1;rfl
    ·split at hx1
     ·cases hx1;rfl
     ·cases hx1
  exact a1d (P:=Tryz.prog) (fn:=Tryz.f80) (psR z i::h) Vl Sb ⟨e,fun β f=>(hq β f).trans (I5 hx1),rfl,rfl⟩
 obtain⟨r9,b9,a9,u9,hM9,rfl,hk9,rfl⟩:=hr9;have ho9:=a0O hz hM9;replace hq:∀ (β:Type) (f:Nat->PE β),a2g z.R d u.kind u.text i f=U8 u.kind u.text r9 i fun r=>F1 r i f:=fun β f=>(hq β f).trans (a3k hM9)
 refine kQ1 [0,2,6] ?_;refine kA2 ?_;refine pD (lnR b9 a9 r9.length u9) ?_;refine A0 Ef (E2 Et Et) (M9 b9 a9 u9 r9 u _ _ _ _ hk9 (F4 Me) (hu.mono Vl Sb)) Lb (fun v hv hx=>?_) fun v12 h12 hr12=>?_
 ·obtain⟨hx1,rfl,rfl⟩:=hx
  exact a1d (P:=Tryz.prog) (fn:=Tryz.f80) (psR z i::h) Vl Sb ⟨_,fun β f=>(hq β f).trans (a1J hx1),rfl,rfl⟩
 obtain⟨hi12,a12,u12,hk12,rfl⟩:=hr12;replace hq:∀ (β:Type) (f:Nat->PE β),a2g z.R d u.kind u.text i f=F1 r9.tail i f:=fun β f=>(hq β f).trans (a1u hi12)
 refine kQ0 [0,6] ?_;refine kA2 ?_;refine WL.perm ((Del.perm (r:=psR z i) De).trans ((Del.perm (r:=lnR b9 a12 r9.tail.length u12) De).cons _)) ?_;refine A0 Ef (E2 Et Et) (K5 hz i b9 a12 u12 r9.tail _ hi) Lb (fun v hv hx=>?_) fun v15 h15 hr15=>?_
 ·obtain⟨hx1,rfl,rfl⟩:=hx
  exact a1d (P:=Tryz.prog) (fn:=Tryz.f80) (psR z i::h) Vl Sb ⟨_,fun β f=>(hq β f).trans (L8 hx1),rfl,rfl⟩
 obtain⟨hz15,rfl⟩:=hr15;refine WL.nil (toX (.inr rfl) (a9h (h':=psR z (i+1)::h) (.inr rfl) rfl  Vl Sb ?_));exact⟨ho9.1.1,fun β f=>(hq β f).trans (L9 hz15),rfl⟩
abbrev p0 (k:Int) (nm:B) (ch:Ex) (tg ex:Sli Ex) (rep:Rp):Pr:=.mk k nm ch tg ex rep none 0 [] none 0 [] B7 D2
theorem a9B {m:View} {z:Pz} (hz:Pok m z) (k:Int) (i:Nat) (b:Nat) (a:Option Addr) (c:Nat) (ts:List Tok) (h:List Res) (hi:i < z.R.length) :
 CX Tryz.prog 147 [ptV z.bp,.int .u8 k,ptV b] (psR z i::lnR b a ts.length c::h) m
 (fun v _ h'=>ts=[]/\v=prV (p0 k [] A2 B7 B7 D1)/\h'=psR z (i+1)::h) (fun v h'=>ts≠[]/\v=wrV 110/\h'=psR z i::h):=by
 refine CX.body Tryz.call147 Tryz.func147 rfl Tryz.ntmps147 Lb rfl ?_;refine j0 ?_;refine xW fun b6=>?_
 refine kQ0 [0,1,2,6] ?_;refine kA2 ?_;refine WL.perm ((Del.perm (r:=psR z i) De).trans ((Del.perm (r:=lnR b a ts.length c) De).cons _)) ?_;refine A0 Ef (E2 Et Et) (K5 hz i b a c ts _ (by omega)) Lb (fun v hv hx=>?_) fun v9 h9 hr9=>?_
 ·obtain⟨hx1,rfl,rfl⟩:=hx
  exact a1d (P:=Tryz.prog) (fn:=Tryz.f147) (psR z i::h) Vl Sb ⟨hx1,rfl,rfl⟩
 obtain⟨hz9,rfl⟩:=hr9;refine kQ0 [1,6] ?_;refine kQ3 [6] ?_;refine xT (psR z (i+1)::h) (h1:=cA S1) ?_;exact⟨hz9,rfl,rfl⟩
theorem b5A (m:View) (h:List Res) {k:Int} (hk:0<=k/\k<=255):POk m h (p0 k [] A2 B7 B7 D1):=a4a hk (Nat.zero_le _) (E6 _ _) (F5 _ _) (F5 _ _) (U1 _ _) (a0b _ _) (a2w _ _) (W7 _ _) (Q5 _ _)
end
section
open Go.Eng Go.Pc Go.Sx Go
open Go.Xp hiding B D5
open Go.Ty (Ty Vr Tok eqT tyV I4 B2 B4 R1 zeroK L7 D3)
open Go.Lx (encB C4 lexO)
open Go.Ly (Rw O6 G8)
abbrev REC (m:View) (z:Pz) (n:Nat):Prop:=∀ (i:Nat) (d:Int) (top:Bool) (h:List Res),i<=z.R.length->z.R.length<=i+n->(0<=d/\d<=34) ->
 PrX m z 29 [ptV z.bp,.int .i64 d,.bool top] i h h (B9 z.R n d top i) (OP m)
abbrev QrX {α:Type} (m:View) (z:Pz) (f:FuncId) (args:List Value) (i b:Nat) (a:Option Addr) (c:Nat) (ts:List Tok) (h:List Res) (M:PE α) (O:α->Value->List Res->Prop):Prop:=PrX m z f args i (lnR b a ts.length c::h) h M O
theorem Y6 {α:Type} {p:α->Prop} {x:α} (h:p x):∀ y ∈ [x],p y:=fun _ hy=>(List.mem_singleton.1 hy) ▸ h
theorem b9A {α:Type} {p:α->Prop} {x y:α} (h:p x) (h2:p y):∀ u ∈ [x,y],p u:=fun u hu=>by
 rcases List.mem_cons.1 hu with rfl | hu
 ·exact h
 ·exact(List.mem_singleton.1 hu) ▸ h2
abbrev exR (b:Nat) (t:Ex):Res:=.pt b (.cells (exE t).toArray 29 (0,0))
abbrev b2u (b:Nat) (p q:Pr):Res:=.pt b (.cells (prE p++prE q).toArray 46 (0,0))
theorem c2t {m:View} {h:List Res} {t:Ex} (b:Nat) (q:EOk m h t):LOk m (exR b t::h) ⟨some ⟨b,0,none⟩,1,[t]⟩:=
 ⟨Rd.ofPt rfl (by show 1<=_;decide) (List.Mem.head _),Y6 (q.mono (List.sublist_cons_self _ _))⟩
theorem c1W {m:View} {z:Pz} {n:Nat} (hrec:REC m z n) (i:Nat) (d:Int) (top:Bool) (h:List Res) (h1:i<=z.R.length) (h2:z.R.length<=i+n) (h3:0<=d/\d<=34) :
 CX Tryz.prog 29 [ptV z.bp,.int .i64 d,.bool top] (psR z i::h) m (fun v _ h'=>∃ hp,h'=hp++h/\∃ p j bl,B9 z.R n d top i=.ok (stP p,j)/\(i < j/\j<=z.R.length)/\v=prV p/\POk m bl p/\hp=psR z j::bl) (fun v h'=>PrE z (B9 z.R n d top i) h v h'):=
 (hrec i d top h h1 h2 h3).mono (fun _ _ _ ⟨_,j,bl,hM,hj,⟨p,e1,e2,hO⟩,e3⟩=>⟨psR z j::bl,e3,p,j,bl,e2 ▸ hM,hj,e1,hO,rfl⟩) fun _ _ q=>q
abbrev PrY {α:Type} (m:View) (z:Pz) (f:FuncId) (args:List Value) (i:Nat) (h:List Res) (M:PE α) (O:α->Value->List Res->Prop):Prop:=
 CX Tryz.prog f args (psR z i::h) m (fun v _ h'=>∃ x j bl,M=.ok (x,j)/\(i<=j/\j<=z.R.length)/\O x v bl/\h'=psR z j::(bl++h)) (fun v h'=>PrE z M h v h')
abbrev a3g (g:Gu) (b:Nat) (p:Pr):Gu:=.mk g.k g.name g.cond g.ch g.tg g.vl g.time (some ⟨b,0,none⟩) 1 [p]
theorem b7L (g:Gu) (b:Nat) (p:Pr):stG (a3g g b p)=b3l (stG g) (stP p):=by cases g;rfl
theorem b8u {m:View} {h:List Res} {g:Gu} {b:Nat} {p:Pr} (q:GOk m h g):GOk m (prR b p::h) (a3g g b p):=
 have q:=q.mono (List.sublist_cons_self (prR b p) h)
 ⟨q.k,q.n,q.cond,q.ch,q.tg,q.vl,q.time,Rd.ofPt rfl (by show 1<=_;decide) (List.Mem.head _)⟩
theorem R4 (p:Pr):stP p=prM p.k p.name (B8 p.ch) (p.tg.l.map B8) (p.ex.l.map B8) (stR p.rep) (p.gl.map stG) (p.ll.map stP) p.pn.l (stS p.sp):=by
 cases p;rw[stP,a7N,a3c];rfl
theorem a5z {m:View} (hg:Glob m) {z:Pz} (hz:Pok m z) {n:Nat} (hrec:REC m z n) (q:FuncId) (row:List Tok->E Gu) (least most:Nat) (d:Int) (i:Nat) (h:List Res) (hi:i<=z.R.length) (hf:z.R.length<=i+n+1) (hd:0<=d/\d<=33)
 (hrow:∀ (b:Nat) (a:Option Addr) (c:Nat) (ts:List Tok) (h hT:List Res),Tk2 m hT a c ts->hT.Sublist h->LnX m q [ptV b] b a c ts hT h (row ts) (OG m)) :
 PrY m z 101 [ptV z.bp,.int .i64 d,.agg #[.int .i64 least,.int .i64 most],.func (.func q) #[] #[]] i h (a1K z.R (B9 z.R n) row least most d i) (OGs m):=by
 have hR:=hz.ok.1;refine CX.body Tryz.call101 Tryz.func101 rfl Tryz.ntmps101 Lb rfl ?_;refine j0 ?_;refine xX fun b6=>?_
 refine kQ1 [0,1,3,6] ?_;refine WL.addNil 102 23 ?_;refine kA1 ?_;refine pD (psR z i) ?_;refine kQ0 [0,1,3,6,9] ?_
 refine B0 [0,1,3,6] rfl (fun μ F' h'=>∃ a9:Option Addr,∃ c9:Nat,∃ l:List Gu,∃ bl:List Res,∃ k:Nat,∃ j:Nat,((l.length+i<=j/\j<=z.R.length/\z.R.length<=j+k)/\((∀ g ∈ l,GOk m bl g)/\∀ g ∈ l,∀ x ∈ g.bl,POk m bl x)/\a1K z.R (B9 z.R n) row least most d i=Z3 z.R (B9 z.R n) row least most d k (l.map stG) j)/\k=μ/\F'=[(9,.slice a9 l.length c9)]/\psR z j::.row (.slice a9 l.length c9) 102 23 l.length (fl guE l)::.pt b6 (.cells [Value.int .i64 least,.int .i64 most].toArray 167 (0,0))::(bl++h)=h') ((z.R.length - i)) [(9,.slice none ([]).length 0)] (h0:=psR z i::.row (.slice none ([]).length 0) 102 23 ([]).length (fl guE ([]))::.pt b6 (.cells [Value.int .i64 least,.int .i64 most].toArray 167 (0,0))::(([])++h)) ?_ Sb ⟨none,0,[],[],z.R.length - i,i,⟨⟨by simp,hi,by omega⟩,⟨fun _ hx=>(List.not_mem_nil hx).elim,fun _ hx=>(List.not_mem_nil hx).elim⟩,rfl⟩,rfl,rfl,rfl⟩ ?_;exact Su
 rintro _ _ _ ⟨a9,c9,l,bl,k,j,⟨⟨hl,hj,hk⟩,⟨hG,hS⟩,hJ⟩,rfl,rfl,rfl⟩;refine B1 rfl ?_;refine a6M ?_;refine kA2 ?_;refine A7 (X5 rfl rfl) (fun hc=>⟨Ef,(E2 (Eg hc) (Eg hc)),a4S hz j d _ Me⟩) Lb ?_;refine zG (fun hc=>Q4 hc rfl rfl) ?_;refine kQ1 [0,1,3,6,9,28] ?_;refine wc (fun c28=>?_) fun c28=>?_
 have hlm:(l.map stG).length=l.length:=List.length_map _;have hc:(l.map stG).length < least\/((l.map stG).length < most/\O3 z.R d j=true):=by
  simp only[Bool.or_eq_true,Bool.and_eq_true,decide_eq_true_eq] at c28;rw[hlm];exact c28.imp (fun q=>by omega) fun q=>⟨by omega,q.2⟩
 have hq:=hJ.trans (b4T hk hc);refine kQ0 [0,1,3,6,9] ?_;refine kA2 ?_;refine pD (psR z j) ?_;refine A0 Ef (E2 Et Et) (a2p hg hz j _ _ (by omega)) Lb (fun v hv hx=>?_) fun v31 h31 hr31=>?_
 ·obtain⟨e,j,hx1,rfl,rfl⟩:=hx;(first | rw[hx1] at hq | rw[I5 hx1] at hq);exact prP Tryz.f101 hq Sb
 obtain⟨r31,b31,a31,u31,hM31,rfl,hk31,rfl⟩:=hr31;have ho31:=a0O hz hM31;rw[a3k hM31] at hq;refine kQ1 [0,1,3,6,9,10] ?_;refine kA2 ?_;refine pD (lnR b31 a31 r31.length u31) ?_;refine A0 (Ev.tmp rfl) (E1 (Ev.tmp rfl)) (hrow b31 a31 u31 r31 _ _ hk31 (F4 Me)) Lb (fun v hv hx=>?_) fun v34 h34 hr34=>?_
 ·obtain⟨e,hx1,rfl,rfl⟩:=hx;rw[hx1] at hq;exact prP Tryz.f101 hq Sb
 obtain⟨x34,r34,a34,u34,bl34,hM34,⟨g34,rfl,rfl,hO34⟩,hk34,rfl⟩:=hr34;refine WL.perm ((Mv.perm).cons _) ?_;rw[hM34,I0] at hq;refine xW fun b11=>?_
 refine kQ1 [0,1,3,6,9,10,11] ?_;refine kA2 ?_;refine WL.perm ((Del.perm (r:=psR z j) De).trans ((Del.perm (r:=lnR b31 a34 r34.length u34) De).cons _)) ?_;refine A0 Ef (E2 Et Et) (K5 hz j b31 a34 u34 r34 _ (by omega)) Lb (fun v hv hx=>?_) fun v37 h37 hr37=>?_
 ·obtain⟨hx1,rfl,rfl⟩:=hx;rw[L8 hx1] at hq;exact prP Tryz.f101 hq Sb
 obtain⟨hz37,rfl⟩:=hr37;rw[L9 hz37] at hq;refine kQ0 [0,1,3,6,9,11] ?_;refine kA3 ?_;refine pD (psR z (j+1)) ?_;refine A0 Ef (E3 Et Et Ek) (hrec (j+1) _ _ _ (by omega) (by omega) (by omega)) Lb (fun v hv hx=>?_) fun v41 h41 hr41=>?_
 ·obtain⟨e,j,hx1,rfl,rfl⟩:=hx;(first | rw[hx1] at hq | rw[I5 hx1] at hq);exact prP Tryz.f101 hq Sb
 obtain⟨x41,j41,bl41,hM41,hj41,⟨p41,rfl,rfl,hO41⟩,rfl⟩:=hr41;refine WL.perm ((Mv.perm).cons _) ?_;rw[hM41,O1] at hq;refine xY Z8 Eb fun b42=>?_
 refine WL.perm (Mv.perm (bl:=[_])) ?_;refine kQ2 [0,1,3,6,9,11] ?_;refine kA2 ?_;refine xY c1X Eb fun b46=>?_
 have hln:(l++[a3g g34 b42 p41]).length=l.length+1:=List.length_append;refine xD c1X (Ev.tmp rfl) (Ev.tmp rfl) (show l.length+1=(l++[a3g g34 b42 p41]).length by simp) (E9 (enc:=guE) _ (a3g g34 b42 p41)) fun a47 c47=>?_
 refine kA1 ?_;rw[<- List.append_assoc bl34 bl h,<- List.append_assoc bl41];have s1:bl.Sublist (prR b42 p41::(bl41++(bl34++bl))):=(b7f bl41 bl34 bl).cons _;have s2:(prR b42 p41::bl34).Sublist (prR b42 p41::(bl41++(bl34++bl))):=(b7b bl41 bl34 bl).cons_cons _;have s3:bl41.Sublist (prR b42 p41::(bl41++(bl34++bl))):=(List.sublist_append_left _ _).cons _;have hm2:(l++[a3g g34 b42 p41]).map stG=l.map stG++[b3l (stG g34) (stP p41)]:=by rw[List.map_append,List.map_singleton,b7L]
 refine WL.nil (A4 ((k - 1)) [(9,.slice a47 (l++[a3g g34 b42 p41]).length c47)] (h'':=psR z j41::.row (.slice a47 (l++[a3g g34 b42 p41]).length c47) 102 23 (l++[a3g g34 b42 p41]).length (fl guE (l++[a3g g34 b42 p41]))::.pt b6 (.cells [Value.int .i64 least,.int .i64 most].toArray 167 (0,0))::((prR b42 p41::(bl41++(bl34++bl)))++h)) (by omega) ?_ Su Sb ⟨a47,c47,l++[a3g g34 b42 p41],prR b42 p41::(bl41++(bl34++bl)),k - 1,j41,⟨⟨by omega,by omega,by omega⟩,⟨V4 (fun y hy=>(hG y hy).mono s1) ((b8u hO34).mono s2),V4 (fun y hy x hx=>(hS y hy x hx).mono s1) (fun x hx=>(List.mem_singleton.1 (show x ∈ [p41] from hx)) ▸ hO41.mono s3)⟩,hq.trans (by rw[hm2])⟩,rfl,rfl,rfl⟩);exact Su;have hlm:(l.map stG).length=l.length:=List.length_map _;have hc:¬ ((l.map stG).length < least\/((l.map stG).length < most/\O3 z.R d j=true)):=fun q=>by
  rw[hlm] at q;have:(decide ((l.length:Int) < least)||(decide ((l.length:Int) < most)&&O3 z.R d j))=true:=by
   simp only[Bool.or_eq_true,Bool.and_eq_true,decide_eq_true_eq];exact q.imp (fun q=>by omega) fun q=>⟨by omega,q.2⟩
  rw[this] at c28;cases c28
 have hq:=hJ.trans (b0U hc);refine O8 (a:=a9) Me fun p9 q9 r9=>?_
 refine kQ0 [9] ?_;refine kQ2 [8] ?_;refine xT (psR z j::.row (.slice a9 l.length c9) 102 23 l.length (fl guE l)::(bl++h)) ?_;exact⟨_,j,.row (.slice a9 l.length c9) 102 23 l.length (fl guE l)::bl,hq,⟨by omega,hj⟩,⟨a9,c9,l,rfl,rfl,Rd.inRow (List.Mem.head _) r9 p9 q9,fun g hg=>(hG g hg).mono (List.sublist_cons_self _ _),fun g hg x hx=>(hS g hg x hx).mono (List.sublist_cons_self _ _)⟩,rfl⟩
theorem b0I {m:View} (hg:Glob m) {z:Pz} (hz:Pok m z) {n:Nat} (hrec:REC m z n) (kd:Int) (hk0:0<=kd/\kd<=255) (d:Int) (i b:Nat) (a:Option Addr) (c:Nat) (ts:List Tok) (h hT:List Res) (hk:Tk2 m hT a c ts) (hs:hT.Sublist h) (hi:i < z.R.length) (hf:z.R.length<=i+n+1) (hd:0<=d/\d<=32) :
 QrX m z 148 [ptV z.bp,.int .u8 kd,.int .i64 d,ptV b] i b a c ts h (a3u z.R (B9 z.R n) kd d ts i) (OP m):=by
 have hR:=hz.ok.1;have hq:a3u z.R (B9 z.R n) kd d ts i=H6 (b2w ts) i fun r ts=>F1 ts i fun i=>if r.name≠[] then P8 (B9 z.R n (d+1) false i) fun x i=>.ok (prM kd [] A2 [] [] r [] [x] [] D2,i)
  else P8 (a1U z.R (B9 z.R n) (d+1) (z.R.length - i) [] i) fun l i=>.ok (prM kd [] A2 [] [] r [] l [] D2,i):=rfl
 refine CX.body Tryz.call148 Tryz.func148 rfl Tryz.ntmps148 Lb rfl ?_;refine j0 ?_;refine xW fun b8=>?_
 refine kQ0 [0,1,2,3,8] ?_;refine kA2 ?_;refine pD (lnR b a ts.length c) ?_;refine A0 Ef (E1 Et) (b6Y hg b a c ts _ _ hk (hs.trans Sb)) Lb (fun v hv hx=>?_) fun v12 h12 hr12=>?_
 ·obtain⟨e,hx1,rfl,rfl⟩:=hx;rw[hx1] at hq;exact prP Tryz.f148 hq Sb
 obtain⟨x12,r12,a12,u12,bl12,hM12,⟨p12,rfl,rfl,hn12,hu12,hv12⟩,hk12,rfl⟩:=hr12;refine WL.perm ((Mv.perm).cons _) ?_;rw[hM12,I0] at hq;refine kA1 ?_;refine xW fun b9=>?_
 refine kQ1 [0,2,3,8,9] ?_;refine kA2 ?_;refine WL.perm ((Del.perm (r:=psR z i) De).trans ((Del.perm (r:=lnR b a12 r12.length u12) De).cons _)) ?_;refine A0 Ef (E2 Et Et) (K5 hz i b a12 u12 r12 _ (by omega)) Lb (fun v hv hx=>?_) fun v16 h16 hr16=>?_
 ·obtain⟨hx1,rfl,rfl⟩:=hx;rw[L8 hx1] at hq;exact prP Tryz.f148 hq Sb
 obtain⟨hz16,rfl⟩:=hr16;rw[L9 hz16] at hq;refine kQ0 [0,2,8,9] ?_;refine kA3 ?_;refine xG (P2 Et Ek) ?_;refine kQ0 [0,2,8,9,20] ?_;refine wc (fun c20=>?_) fun c20=>?_
 have c20:p12.name≠[]:=by simpa using c20
 rw[if_pos (show(stR p12).name≠[] from c20)] at hq;refine kA3 ?_;refine pD (psR z (i+1)) ?_;refine A0 Ef (E3 Et Et Ek) (hrec (i+1) _ _ _ (by omega) (by omega) (by omega)) Lb (fun v hv hx=>?_) fun v24 h24 hr24=>?_
 ·obtain⟨e,j,hx1,rfl,rfl⟩:=hx;(first | rw[hx1] at hq | rw[I5 hx1] at hq);exact prP Tryz.f148 hq Sb
 obtain⟨x24,j24,bl24,hM24,hj24,⟨p24,rfl,rfl,hO24⟩,rfl⟩:=hr24;refine WL.perm ((Mv.perm).cons _) ?_;rw[hM24,O1] at hq;refine xY Z8 Eb fun b25=>?_
 refine WL.perm (Mv.perm (bl:=[_])) ?_;refine kQ2 [8,9] ?_;refine kQ2 [8] ?_;refine xT (psR z j24::(prR b25 p24::(bl24++(bl12++h)))) (h1:=cA S1) ?_;exact⟨_,_,prR b25 p24::(bl24++bl12),hq,⟨by omega,hj24.2⟩,⟨.mk kd [] A2 B7 B7 p12 none 0 [] (some ⟨b25,0,none⟩) 1 [p24] B7 D2,rfl,R4 _,a4a hk0 (Nat.zero_le _) (E6 _ _) (F5 _ _) (F5 _ _) (Rs.mono (h:=bl12) ⟨hn12,hu12,hv12⟩ ((List.sublist_append_right _ _).cons _)) (a0b _ _) ⟨Rd.ofPt rfl (by show 1<=_;decide) (List.Mem.head _),Y6 (hO24.mono ((List.sublist_append_left _ _).cons _))⟩ (W7 _ _) (Q5 _ _)⟩,by rw[List.cons_append,List.append_assoc]⟩;have c20:p12.name=[]:=by simpa using c20
 rw[if_neg (show ¬ (stR p12).name≠[] from fun q=>q c20)] at hq;refine WC.addNil 46 42 ?_;refine WC.take (r:=psR z (i+1)) De ?_;refine kQ0 [0,2,8,9] ?_
 refine B0 [0,2,8,9] rfl (fun μ F' h'=>∃ a9:Option Addr,∃ c9:Nat,∃ l:List Pr,∃ bl:List Res,∃ k:Nat,∃ j:Nat,((l.length+i+1<=j/\j<=z.R.length/\z.R.length<=j+k)/\(∀ x ∈ l,POk m bl x)/\a3u z.R (B9 z.R n) kd d ts i=P8 (a1U z.R (B9 z.R n) (d+1) k (l.map stP) j) fun l i=>.ok (prM kd [] A2 [] [] (stR p12) [] l [] D2,i))/\k=μ/\F'=[]/\psR z j::.row (.slice a9 l.length c9) 46 42 l.length (fl prE l)::prR b9 (.mk kd [] A2 B7 B7 p12 none 0 [] a9 c9 l B7 D2)::prR b8 (p0 0 [] A2 B7 B7 D1)::(bl++(bl12++h))=h') ((z.R.length - (i+1))) [] (h0:=psR z (i+1)::.row (.slice none ([]).length 0) 46 42 ([]).length (fl prE ([]))::prR b9 (.mk kd [] A2 B7 B7 p12 none 0 [] none 0 ([]) B7 D2)::prR b8 (p0 0 [] A2 B7 B7 D1)::(([])++(bl12++h))) ?_ Sb ⟨none,0,[],[],z.R.length - (i+1),i+1,⟨⟨by simp,by omega,by omega⟩,fun _ hx=>(List.not_mem_nil hx).elim,hq⟩,rfl,rfl,rfl⟩ ?_;exact Su
 rintro _ _ _ ⟨a9,c9,l,bl,k,j,⟨⟨hl,hj,hk⟩,hS,hJ⟩,rfl,rfl,rfl⟩;refine B1 rfl ?_;refine kA3 ?_;refine xf (E2 Et Et) (a4S hz j (d+1) _ Me) ?_;refine kQ0 [0,2,8,9,31] ?_;refine wc (fun c31=>?_) fun c31=>?_
 rw[b6X hk c31] at hJ;refine WC.take (r:=psR z j) De ?_;refine kQ0 [0,2,8,9] ?_;refine F2 [5,6] (.op 0 (.op 1 (.op 2 (.op 3 (.op 4 (.op 5 (.op 6 .nil))))))) [7,8,9] _ [_] D6 (fun _ _ _ _ _ h=>h) [] (by kernel_rfl) ?_;refine kA4 ?_;refine yG rfl (M2 Et Ek (by omega)) ?_;refine a1e rfl rfl Ef (E3 Et Et Ek) (fun fr=>c1W hrec j (d+1) false _ (by omega) (by omega) (by omega)) Lb (fun fr v hv hx=>?_) fun v37 h37 hr37=>?_
 ·obtain⟨e,j2,hx1,rfl,rfl⟩:=hx
  rw[hx1] at hJ;exact prP Tryz.f148 hJ ((a1M Sb fr).cons_cons _)
 obtain⟨p37,j37,bl37,hM37,hj37,rfl,hO37,rfl⟩:=hr37;refine sB rfl Z8 fun b38=>?_
 refine a1G (H:=prR b38 p37::psR z j37::.row (.slice a9 l.length c9) 46 42 l.length (fl prE l)::prR b9 (.mk kd [] A2 B7 B7 p12 none 0 [] a9 c9 l B7 D2)::prR b8 (p0 0 [] A2 B7 B7 D1)::(bl37++(bl++(bl12++h)))) rfl (((V2 bl37 [_,_,_] (bl++(bl12++h))).cons _).cons _) ?_;have hln:(l++[p37]).length=l.length+1:=List.length_append;refine xD Z8 (Ev.tmp rfl) (Ev.tmp rfl) (show l.length+1=(l++[p37]).length by simp) (E9 (enc:=prE) _ (p37)) fun a39 c39=>?_
 refine kA2 ?_;rw[hM37,O1] at hJ;rw[<- List.append_assoc bl37 bl];have hm2:(l++[p37]).map stP=l.map stP++[stP p37]:=by rw[List.map_append,List.map_singleton]
 refine WL.nil (A4 ((k - 1)) [] (h'':=psR z j37::.row (.slice a39 (l++[p37]).length c39) 46 42 (l++[p37]).length (fl prE (l++[p37]))::prR b9 (.mk kd [] A2 B7 B7 p12 none 0 [] a39 c39 (l++[p37]) B7 D2)::prR b8 (p0 0 [] A2 B7 B7 D1)::((bl37++bl)++(bl12++h))) (by omega) ?_ Su Sb ⟨a39,c39,l++[p37],bl37++bl,k - 1,j37,⟨⟨by omega,by omega,by omega⟩,V4 (fun y hy=>(hS y hy).mono (List.sublist_append_right _ _)) (hO37.mono (List.sublist_append_left _ _)),hJ.trans (by rw[hm2])⟩,rfl,rfl,rfl⟩);exact Su;rw[b2P c31,O1] at hJ;refine O8 (a:=a9) Me fun p9 q9 r9=>?_
 refine kQ0 [8,9] ?_;refine kQ2 [8] ?_;refine xT (psR z j::(.row (.slice a9 l.length c9) 46 42 l.length (fl prE l)::(bl++(bl12++h)))) (h1:=cA S1) ?_;exact⟨_,_,.row (.slice a9 l.length c9) 46 42 l.length (fl prE l)::(bl++bl12),hJ,⟨by omega,hj⟩,⟨.mk kd [] A2 B7 B7 p12 none 0 [] a9 c9 l B7 D2,rfl,R4 _,a4a hk0 (Nat.zero_le _) (E6 _ _) (F5 _ _) (F5 _ _) (Rs.mono (h:=bl12) ⟨hn12,hu12,hv12⟩ ((List.sublist_append_right _ _).cons _)) (a0b _ _) ⟨Rd.inRow (List.Mem.head _) r9 p9 q9,fun x hx=>(hS x hx).mono ((List.sublist_append_left _ _).cons _)⟩ (W7 _ _) (Q5 _ _)⟩,by rw[List.cons_append,List.append_assoc]⟩
theorem a5q {m:View} (hg:Glob m) {z:Pz} (hz:Pok m z) {n:Nat} (hrec:REC m z n) (kd:Int) (hk0:0<=kd/\kd<=255) (q:FuncId) (row:List Tok->E Gu) (hrow:∀ (b:Nat) (a:Option Addr) (c:Nat) (ts:List Tok) (h hT:List Res),Tk2 m hT a c ts->hT.Sublist h->LnX m q [ptV b] b a c ts hT h (row ts) (OG m)) (d:Int) (i b:Nat) (a:Option Addr) (c:Nat) (ts:List Tok) (h hT:List Res) (hk:Tk2 m hT a c ts) (hs:hT.Sublist h) (hi:i < z.R.length) (hf:z.R.length<=i+n+1) (hd:0<=d/\d<=32) :
 QrX m z 149 [ptV z.bp,.int .u8 kd,.int .i64 d,ptV b,.func (.func q) #[] #[]] i b a c ts h (a0E z.R (B9 z.R n) kd row d ts i) (OP m):=by
 have hR:=hz.ok.1;have hq:a0E z.R (B9 z.R n) kd row d ts i=H6 (b2w ts) i fun r ts=>F1 ts i fun i=>
  P8 (a1K z.R (B9 z.R n) row (if r.name≠[] then 1 else 0) (if r.name≠[] then 1 else 16) (d+1) i) fun l i=>.ok (prM kd [] A2 [] [] r l [] [] D2,i):=rfl
 refine CX.body Tryz.call149 Tryz.func149 rfl Tryz.ntmps149 Lb rfl ?_;refine j0 ?_;refine xW fun b10=>?_
 refine kQ0 [0,1,2,3,4,10] ?_;refine kA2 ?_;refine pD (lnR b a ts.length c) ?_;refine A0 Ef (E1 Et) (b6Y hg b a c ts _ _ hk (hs.trans Sb)) Lb (fun v hv hx=>?_) fun v15 h15 hr15=>?_
 ·obtain⟨e,hx1,rfl,rfl⟩:=hx;rw[hx1] at hq;exact prP Tryz.f149 hq Sb
 obtain⟨x15,r15,a15,u15,bl15,hM15,⟨p15,rfl,rfl,hn15,hu15,hv15⟩,hk15,rfl⟩:=hr15;refine WL.perm ((Mv.perm).cons _) ?_;rw[hM15,I0] at hq;refine kA1 ?_;refine xW fun b11=>?_
 refine kQ1 [0,2,3,4,10,11] ?_;refine kA2 ?_;refine WL.perm ((Del.perm (r:=psR z i) De).trans ((Del.perm (r:=lnR b a15 r15.length u15) De).cons _)) ?_;refine A0 Ef (E2 Et Et) (K5 hz i b a15 u15 r15 _ (by omega)) Lb (fun v hv hx=>?_) fun v19 h19 hr19=>?_
 ·obtain⟨hx1,rfl,rfl⟩:=hx;rw[L8 hx1] at hq;exact prP Tryz.f149 hq Sb
 obtain⟨hz19,rfl⟩:=hr19;rw[L9 hz19] at hq;refine kQ0 [0,2,4,10,11] ?_;refine kA1 ?_;refine xW fun b12=>?_
 refine kA1 ?_;refine pD (psR z (i+1)) ?_;refine kQ0 [0,2,4,10,11,12] ?_;refine kA3 ?_;refine xG (P2 Et Ek) ?_;refine kP0 [0,2,4,10,11,12,24] ?_;refine H9 KKh [0,2,4,10,11,12] rfl (fun F' h'=>∃ lo:Nat,∃ hi2:Nat,(lo=(if (stR p15).name≠[] then 1 else 0)/\hi2=(if (stR p15).name≠[] then 1 else 16))/\F'=[]/\psR z (i+1)::.pt b12 (.cells [Value.int .i64 lo,Value.int .i64 hi2].toArray 167 (0,0))::prR b11 (.mk kd [] A2 B7 B7 p15 none 0 [] none 0 [] B7 D2)::prR b10 (p0 0 [] A2 B7 B7 D1)::(bl15++h)=h') ?_ ?_;refine jE ?_;refine wc (fun c24=>?_) fun c24=>?_
 have c24:(stR p15).name≠[]:=show p15.name≠[] by simpa using c24
 refine j0 ?_;refine xG (H7 (vs:=a7m) Q9 rfl rfl Ev.global rfl (fun j v hj=>by rw[Nat.zero_add];exact hg.sOne j v hj)) ?_;refine kA1 ?_;refine WL.nil (C8 [] (h'':=psR z (i+1)::.pt b12 (.cells [Value.int .i64 1,Value.int .i64 1].toArray 167 (0,0))::prR b11 (.mk kd [] A2 B7 B7 p15 none 0 [] none 0 [] B7 D2)::prR b10 (p0 0 [] A2 B7 B7 D1)::(bl15++h)) ?_ Su Sb ⟨1,1,⟨(if_pos c24).symm,(if_pos c24).symm⟩,rfl,rfl⟩);exact Su;have c24:¬ (stR p15).name≠[]:=show ¬ p15.name≠[] by simpa using c24
 refine WC.skip (C8 [] (h'':=psR z (i+1)::.pt b12 (.cells [Value.int .i64 0,Value.int .i64 16].toArray 167 (0,0))::prR b11 (.mk kd [] A2 B7 B7 p15 none 0 [] none 0 [] B7 D2)::prR b10 (p0 0 [] A2 B7 B7 D1)::(bl15++h)) ?_ Su Sb ⟨0,16,⟨(if_neg c24).symm,(if_neg c24).symm⟩,rfl,rfl⟩);exact Su;rintro _ _ ⟨lo,hi2,⟨hlo,hhi⟩,rfl,rfl⟩;refine B1 rfl ?_;rw[<- hlo,<- hhi] at hq;refine kA5 ?_;refine pD (psR z (i+1)) ?_;refine A0 Ef (E4 Et Et Et Et) (a5z hg hz hrec q row lo hi2 _ (i+1) _ (by omega) (by omega) (by omega) hrow) Lb (fun v hv hx=>?_) fun v31 h31 hr31=>?_
 ·obtain⟨e,j,hx1,rfl,rfl⟩:=hx;(first | rw[hx1] at hq | rw[I5 hx1] at hq);exact prP Tryz.f149 hq Sb
 obtain⟨x31,j31,bl31,hM31,hj31,⟨q31,w31,l31,rfl,rfl,hG31⟩,rfl⟩:=hr31;refine WL.perm ((Mv.perm).cons _) ?_;rw[hM31,O1] at hq;refine kQ2 [10,11] ?_;refine kQ2 [10] ?_;refine xT (psR z j31::(bl31++(bl15++h))) (h1:=cA S1) ?_;exact⟨_,_,bl31++bl15,hq,⟨by omega,hj31.2⟩,⟨.mk kd [] A2 B7 B7 p15 q31 w31 l31 none 0 [] B7 D2,rfl,R4 _,a4a hk0 (Nat.zero_le _) (E6 _ _) (F5 _ _) (F5 _ _) (Rs.mono (h:=bl15) ⟨hn15,hu15,hv15⟩ (List.sublist_append_right _ _)) (hG31.mono (List.sublist_append_left _ _)) (a2w _ _) (W7 _ _) (Q5 _ _)⟩,by rw[List.append_assoc]⟩
theorem b9X {m:View} {z:Pz} (hz:Pok m z) (d:Int) (i b:Nat) (a:Option Addr) (c:Nat) (ts:List Tok) (h:List Res) (hi:i < z.R.length) :
 QrX m z 89 [ptV z.bp,.int .i64 d,ptV b] i b a c ts h (b5d 1 ts i) (OP m):=by
 have hq:b5d 1 ts i=F1 ts i fun i=>.ok (prM 1 [] A2 [] [] D1 [] [] [] D2,i):=rfl
 refine CX.body Tryz.call89 Tryz.func89 rfl Tryz.ntmps89 Lb rfl ?_;refine j0 ?_;refine xW fun b6=>?_
 refine kQ0 [0,2,6] ?_;refine kA2 ?_;refine WL.perm ((Del.perm (r:=psR z i) De).trans ((Del.perm (r:=lnR b a ts.length c) De).cons _)) ?_;refine A0 Ef (E3 Et Ek Et) (a9B hz 1 i b a c ts _ hi) Lb (fun v hv hx=>?_) fun v9 h9 hr9=>?_
 ·obtain⟨hx1,rfl,rfl⟩:=hx;rw[L8 hx1] at hq;exact prP Tryz.f89 hq Sb
 obtain⟨hz9,rfl,rfl⟩:=hr9;rw[L9 hz9] at hq;refine kQ1 [6] ?_;refine xT (psR z (i+1)::h) (h1:=cA S1) ?_;exact⟨_,_,[],hq,⟨by omega,by omega⟩,⟨p0 1 [] A2 B7 B7 D1,rfl,R4 _,b5A _ _ (by decide)⟩,rfl⟩
theorem c05 {m:View} {z:Pz} (hz:Pok m z) (d:Int) (i b:Nat) (a:Option Addr) (c:Nat) (ts:List Tok) (h:List Res) (hi:i < z.R.length) :
 QrX m z 90 [ptV z.bp,.int .i64 d,ptV b] i b a c ts h (b5d 2 ts i) (OP m):=by
 have hq:b5d 2 ts i=F1 ts i fun i=>.ok (prM 2 [] A2 [] [] D1 [] [] [] D2,i):=rfl
 refine CX.body Tryz.call90 Tryz.func90 rfl Tryz.ntmps90 Lb rfl ?_;refine j0 ?_;refine xW fun b6=>?_
 refine kQ0 [0,2,6] ?_;refine kA2 ?_;refine WL.perm ((Del.perm (r:=psR z i) De).trans ((Del.perm (r:=lnR b a ts.length c) De).cons _)) ?_;refine A0 Ef (E3 Et Ek Et) (a9B hz 2 i b a c ts _ hi) Lb (fun v hv hx=>?_) fun v9 h9 hr9=>?_
 ·obtain⟨hx1,rfl,rfl⟩:=hx;rw[L8 hx1] at hq;exact prP Tryz.f90 hq Sb
 obtain⟨hz9,rfl,rfl⟩:=hr9;rw[L9 hz9] at hq;refine kQ1 [6] ?_;refine xT (psR z (i+1)::h) (h1:=cA S1) ?_;exact⟨_,_,[],hq,⟨by omega,by omega⟩,⟨p0 2 [] A2 B7 B7 D1,rfl,R4 _,b5A _ _ (by decide)⟩,rfl⟩
theorem c0l {m:View} (hg:Glob m) {z:Pz} (hz:Pok m z) {n:Nat} (hrec:REC m z n) (d:Int) (i b:Nat) (a:Option Addr) (c:Nat) (ts:List Tok) (h hT:List Res) (hk:Tk2 m hT a c ts) (hs:hT.Sublist h) (hi:i < z.R.length) (hf:z.R.length<=i+n+1) (hd:0<=d/\d<=32) :
 QrX m z 91 [ptV z.bp,.int .i64 d,ptV b] i b a c ts h (a3u z.R (B9 z.R n) 8 d ts i) (OP m):=by
 refine CX.body Tryz.call91 Tryz.func91 rfl Tryz.ntmps91 Lb rfl ?_;refine j0 ?_;refine xW fun b6=>?_
 refine kQ0 [0,1,2,6] ?_;refine kA3 ?_;refine WL.perm ((Del.perm (r:=psR z i) De).trans ((Del.perm (r:=lnR b a ts.length c) De).cons _)) ?_;refine A0 Ef (E4 Et Ek Et Et) (b0I hg hz hrec 8 (by decide) d i b a c ts _ _ hk (hs.trans Sb) hi hf hd) Lb (fun v hv hx=>?_) fun v10 h10 hr10=>?_
 ·obtain⟨e,j,hx1,rfl,rfl⟩:=hx
  exact prP Tryz.f91 hx1 Sb
 obtain⟨x10,j10,bl10,hM10,hj10,⟨p10,rfl,rfl,hO10⟩,rfl⟩:=hr10;refine WL.perm ((Mv.perm).cons _) ?_;have hq:=hM10;refine kQ1 [6] ?_;refine xT (psR z j10::(bl10++h)) (h1:=cA S1) ?_;exact⟨_,_,bl10,hq,hj10,⟨p10,rfl,rfl,hO10⟩,rfl⟩
theorem c0d {m:View} (hg:Glob m) {z:Pz} (hz:Pok m z) {n:Nat} (hrec:REC m z n) (d:Int) (i b:Nat) (a:Option Addr) (c:Nat) (ts:List Tok) (h hT:List Res) (hk:Tk2 m hT a c ts) (hs:hT.Sublist h) (hi:i < z.R.length) (hf:z.R.length<=i+n+1) (hd:0<=d/\d<=32) :
 QrX m z 92 [ptV z.bp,.int .i64 d,ptV b] i b a c ts h (a3u z.R (B9 z.R n) 9 d ts i) (OP m):=by
 refine CX.body Tryz.call92 Tryz.func92 rfl Tryz.ntmps92 Lb rfl ?_;refine j0 ?_;refine xW fun b6=>?_
 refine kQ0 [0,1,2,6] ?_;refine kA3 ?_;refine WL.perm ((Del.perm (r:=psR z i) De).trans ((Del.perm (r:=lnR b a ts.length c) De).cons _)) ?_;refine A0 Ef (E4 Et Ek Et Et) (b0I hg hz hrec 9 (by decide) d i b a c ts _ _ hk (hs.trans Sb) hi hf hd) Lb (fun v hv hx=>?_) fun v10 h10 hr10=>?_
 ·obtain⟨e,j,hx1,rfl,rfl⟩:=hx
  exact prP Tryz.f92 hx1 Sb
 obtain⟨x10,j10,bl10,hM10,hj10,⟨p10,rfl,rfl,hO10⟩,rfl⟩:=hr10;refine WL.perm ((Mv.perm).cons _) ?_;have hq:=hM10;refine kQ1 [6] ?_;refine xT (psR z j10::(bl10++h)) (h1:=cA S1) ?_;exact⟨_,_,bl10,hq,hj10,⟨p10,rfl,rfl,hO10⟩,rfl⟩
theorem c04 {m:View} (hg:Glob m) {z:Pz} (hz:Pok m z) {n:Nat} (hrec:REC m z n) (d:Int) (i b:Nat) (a:Option Addr) (c:Nat) (ts:List Tok) (h hT:List Res) (hk:Tk2 m hT a c ts) (hs:hT.Sublist h) (hi:i < z.R.length) (hf:z.R.length<=i+n+1) (hd:0<=d/\d<=32) :
 QrX m z 94 [ptV z.bp,.int .i64 d,ptV b] i b a c ts h (a0E z.R (B9 z.R n) 12 a6Z d ts i) (OP m):=by
 refine CX.body Tryz.call94 Tryz.func94 rfl Tryz.ntmps94 Lb rfl ?_;refine j0 ?_;refine xW fun b6=>?_
 refine kQ0 [0,1,2,6] ?_;refine kA3 ?_;refine WL.perm ((Del.perm (r:=psR z i) De).trans ((Del.perm (r:=lnR b a ts.length c) De).cons _)) ?_;refine A0 Ef (Evs.cons Et (Evs.cons Ek (Evs.cons Et (Evs.cons Et (Evs.cons Ef Evs.nil))))) (a5q hg hz hrec 12 (by decide) _ a6Z (fun b a c ts h hT=>b8n hg b a c ts h hT) d i b a c ts _ _ hk (hs.trans Sb) hi hf hd) Lb (fun v hv hx=>?_) fun v10 h10 hr10=>?_
 ·obtain⟨e,j,hx1,rfl,rfl⟩:=hx
  exact prP Tryz.f94 hx1 Sb
 obtain⟨x10,j10,bl10,hM10,hj10,⟨p10,rfl,rfl,hO10⟩,rfl⟩:=hr10;refine WL.perm ((Mv.perm).cons _) ?_;have hq:=hM10;refine kQ1 [6] ?_;refine xT (psR z j10::(bl10++h)) (h1:=cA S1) ?_;exact⟨_,_,bl10,hq,hj10,⟨p10,rfl,rfl,hO10⟩,rfl⟩
theorem b1X {m:View} (hg:Glob m) {z:Pz} (hz:Pok m z) {n:Nat} (hrec:REC m z n) (d:Int) (i b:Nat) (a:Option Addr) (c:Nat) (ts:List Tok) (h hT:List Res) (hk:Tk2 m hT a c ts) (hs:hT.Sublist h) (hi:i < z.R.length) (hf:z.R.length<=i+n+1) (hd:0<=d/\d<=32) :
 QrX m z 95 [ptV z.bp,.int .i64 d,ptV b] i b a c ts h (a0E z.R (B9 z.R n) 14 ifM d ts i) (OP m):=by
 refine CX.body Tryz.call95 Tryz.func95 rfl Tryz.ntmps95 Lb rfl ?_;refine j0 ?_;refine xW fun b6=>?_
 refine kQ0 [0,1,2,6] ?_;refine kA3 ?_;refine WL.perm ((Del.perm (r:=psR z i) De).trans ((Del.perm (r:=lnR b a ts.length c) De).cons _)) ?_;refine A0 Ef (Evs.cons Et (Evs.cons Ek (Evs.cons Et (Evs.cons Et (Evs.cons Ef Evs.nil))))) (a5q hg hz hrec 14 (by decide) _ ifM (fun b a c ts h hT=>c2V hg b a c ts h hT) d i b a c ts _ _ hk (hs.trans Sb) hi hf hd) Lb (fun v hv hx=>?_) fun v10 h10 hr10=>?_
 ·obtain⟨e,j,hx1,rfl,rfl⟩:=hx
  exact prP Tryz.f95 hx1 Sb
 obtain⟨x10,j10,bl10,hM10,hj10,⟨p10,rfl,rfl,hO10⟩,rfl⟩:=hr10;refine WL.perm ((Mv.perm).cons _) ?_;have hq:=hM10;refine kQ1 [6] ?_;refine xT (psR z j10::(bl10++h)) (h1:=cA S1) ?_;exact⟨_,_,bl10,hq,hj10,⟨p10,rfl,rfl,hO10⟩,rfl⟩
theorem c2K {m:View} (hg:Glob m) {z:Pz} (hz:Pok m z) {n:Nat} (hrec:REC m z n) (d:Int) (i b:Nat) (a:Option Addr) (c:Nat) (ts:List Tok) (h hT:List Res) (hk:Tk2 m hT a c ts) (hs:hT.Sublist h) (hi:i < z.R.length) (hf:z.R.length<=i+n+1) (hd:0<=d/\d<=32) :
 QrX m z 96 [ptV z.bp,.int .i64 d,ptV b] i b a c ts h (c1M z.R (B9 z.R n) d ts i) (OP m):=by
 have hR:=hz.ok.1;have hq:c1M z.R (B9 z.R n) d ts i=H6 (L6 ts) i fun e r=>F1 r i fun i=>P8 (a1K z.R (B9 z.R n) b4k 0 16 (d+1) i) fun l i=>.ok (prM 15 [] A2 [] [e] D1 l [] [] D2,i):=rfl
 refine CX.body Tryz.call96 Tryz.func96 rfl Tryz.ntmps96 Lb rfl ?_;refine j0 ?_;refine xW fun b6=>?_
 refine kQ0 [0,1,2,6] ?_;refine kA1 ?_;refine pD (lnR b a ts.length c) ?_;refine A0 Ef (E1 Et) (R8 hg b a c ts _ _ hk (hs.trans Sb)) Lb (fun v hv hx=>?_) fun v9 h9 hr9=>?_
 ·obtain⟨e,hx1,rfl,rfl⟩:=hx;rw[hx1] at hq;exact prP Tryz.f96 hq Sb
 obtain⟨x9,r9,a9,u9,bl9,hM9,⟨t9,rfl,rfl,hO9⟩,hk9,rfl⟩:=hr9;refine WL.perm ((Mv.perm).cons _) ?_;rw[hM9,I0] at hq;refine xY Y9 Eb fun b10=>?_
 refine WL.perm (Mv.perm (bl:=[_])) ?_;refine kA1 ?_;refine xW fun b7=>?_
 refine kQ1 [0,1,2,6,7] ?_;refine kA2 ?_;refine WL.perm ((Del.perm (r:=psR z i) De).trans ((Del.perm (r:=lnR b a9 r9.length u9) De).cons _)) ?_;refine A0 Ef (E2 Et Et) (K5 hz i b a9 u9 r9 _ (by omega)) Lb (fun v hv hx=>?_) fun v14 h14 hr14=>?_
 ·obtain⟨hx1,rfl,rfl⟩:=hx;rw[L8 hx1] at hq;exact prP Tryz.f96 hq Sb
 obtain⟨hz14,rfl⟩:=hr14;rw[L9 hz14] at hq;refine kQ0 [0,1,6,7] ?_;refine kA4 ?_;refine pD (psR z (i+1)) ?_;refine A0 Ef (E4 Et Et Et Ef) (a5z hg hz hrec _ b4k 0 16 _ (i+1) _ (by omega) (by omega) (by omega) (fun b a c ts h hT=>c1K hg b a c ts h hT)) Lb (fun v hv hx=>?_) fun v19 h19 hr19=>?_
 ·obtain⟨e,j,hx1,rfl,rfl⟩:=hx;(first | rw[hx1] at hq | rw[I5 hx1] at hq);exact prP Tryz.f96 hq Sb
 obtain⟨x19,j19,bl19,hM19,hj19,⟨q19,w19,l19,rfl,rfl,hG19⟩,rfl⟩:=hr19;refine WL.perm ((Mv.perm).cons _) ?_;rw[hM19,O1] at hq;refine kQ2 [6,7] ?_;refine kQ2 [6] ?_;refine xT (psR z j19::(exR b10 t9::(bl19++(bl9++h)))) (h1:=cA S1) ?_;exact⟨_,_,exR b10 t9::(bl19++bl9),hq,⟨by omega,hj19.2⟩,⟨.mk 15 [] A2 B7 ⟨some ⟨b10,0,none⟩,1,[t9]⟩ D1 q19 w19 l19 none 0 [] B7 D2,rfl,R4 _,a4a (by decide) (Nat.zero_le _) (E6 _ _) (F5 _ _) ((c2t b10 hO9).mono ((List.sublist_append_right _ _).cons_cons _)) (U1 _ _) (hG19.mono ((List.sublist_append_left _ _).cons _)) (a2w _ _) (W7 _ _) (Q5 _ _)⟩,by rw[List.cons_append,List.append_assoc]⟩
theorem b9M {m:View} (hg:Glob m) {z:Pz} (hz:Pok m z) {n:Nat} (hrec:REC m z n) (d:Int) (i b:Nat) (a:Option Addr) (c:Nat) (ts:List Tok) (h hT:List Res) (hk:Tk2 m hT a c ts) (hs:hT.Sublist h) (hi:i < z.R.length) (hf:z.R.length<=i+n+1) (hd:0<=d/\d<=32) :
 QrX m z 97 [ptV z.bp,.int .i64 d,ptV b] i b a c ts h (b7p (B9 z.R n) d ts i) (OP m):=by
 have hR:=hz.ok.1;have hq:b7p (B9 z.R n) d ts i=H6 (L6 ts) i fun e r=>F1 r i fun i=>P8 (B9 z.R n (d+1) false i) fun x i=>.ok (prM 16 [] A2 [] [e] D1 [] [x] [] D2,i):=rfl
 refine CX.body Tryz.call97 Tryz.func97 rfl Tryz.ntmps97 Lb rfl ?_;refine j0 ?_;refine xW fun b6=>?_
 refine kQ0 [0,1,2,6] ?_;refine kA1 ?_;refine pD (lnR b a ts.length c) ?_;refine A0 Ef (E1 Et) (R8 hg b a c ts _ _ hk (hs.trans Sb)) Lb (fun v hv hx=>?_) fun v9 h9 hr9=>?_
 ·obtain⟨e,hx1,rfl,rfl⟩:=hx;rw[hx1] at hq;exact prP Tryz.f97 hq Sb
 obtain⟨x9,r9,a9,u9,bl9,hM9,⟨t9,rfl,rfl,hO9⟩,hk9,rfl⟩:=hr9;refine WL.perm ((Mv.perm).cons _) ?_;rw[hM9,I0] at hq;refine xY Y9 Eb fun b10=>?_
 refine WL.perm (Mv.perm (bl:=[_])) ?_;refine kA1 ?_;refine xW fun b7=>?_
 refine kQ1 [0,1,2,6,7] ?_;refine kA2 ?_;refine WL.perm ((Del.perm (r:=psR z i) De).trans ((Del.perm (r:=lnR b a9 r9.length u9) De).cons _)) ?_;refine A0 Ef (E2 Et Et) (K5 hz i b a9 u9 r9 _ (by omega)) Lb (fun v hv hx=>?_) fun v14 h14 hr14=>?_
 ·obtain⟨hx1,rfl,rfl⟩:=hx;rw[L8 hx1] at hq;exact prP Tryz.f97 hq Sb
 obtain⟨hz14,rfl⟩:=hr14;rw[L9 hz14] at hq;refine kQ0 [0,1,6,7] ?_;refine kA3 ?_;refine pD (psR z (i+1)) ?_;refine A0 Ef (E3 Et Et Ek) (hrec (i+1) _ _ _ (by omega) (by omega) (by omega)) Lb (fun v hv hx=>?_) fun v18 h18 hr18=>?_
 ·obtain⟨e,j,hx1,rfl,rfl⟩:=hx;(first | rw[hx1] at hq | rw[I5 hx1] at hq);exact prP Tryz.f97 hq Sb
 obtain⟨x18,j18,bl18,hM18,hj18,⟨p18,rfl,rfl,hO18⟩,rfl⟩:=hr18;refine WL.perm ((Mv.perm).cons _) ?_;rw[hM18,O1] at hq;refine xY Z8 Eb fun b19=>?_
 refine WL.perm (Mv.perm (bl:=[_])) ?_;refine kQ2 [6,7] ?_;refine kQ2 [6] ?_;refine xT (psR z j18::(exR b10 t9::prR b19 p18::(bl18++(bl9++h)))) (h1:=cA S1) ?_;exact⟨_,_,exR b10 t9::prR b19 p18::(bl18++bl9),hq,⟨by omega,hj18.2⟩,⟨.mk 16 [] A2 B7 ⟨some ⟨b10,0,none⟩,1,[t9]⟩ D1 none 0 [] (some ⟨b19,0,none⟩) 1 [p18] B7 D2,rfl,R4 _,a4a (by decide) (Nat.zero_le _) (E6 _ _) (F5 _ _) ((c2t b10 hO9).mono (((List.sublist_append_right _ _).cons _).cons_cons _)) (U1 _ _) (a0b _ _) ⟨Rd.ofPt rfl (by show 1<=_;decide) (List.Mem.tail _ (List.Mem.head _)),Y6 (hO18.mono (((List.sublist_append_left _ _).cons _).cons _))⟩ (W7 _ _) (Q5 _ _)⟩,by rw[List.cons_append,List.cons_append,List.append_assoc]⟩
end
section
open Go.Eng Go.Pc Go.Sx Go
open Go.Xp hiding B D5
open Go.Ty (Ty Vr Tok eqT tyV I4 B2 B4 R1 zeroK L7 D3)
open Go.Lx (encB C4 lexO)
open Go.Ly (Rw O6 G8)
theorem ls2 {m:View} {h:List Res} {p q:Pr} (b:Nat) (hp:POk m h p) (hq:POk m h q):Ls m (b2u b p q::h) (some ⟨b,0,none⟩) 2 [p,q]:=
 ⟨by
  have e:fl prE [p,q]=prE p++prE q:=by simp[fl]
  rw[e];exact Rd.ofPt (by rw[List.length_append,a1B,a1B];rfl) (by show 2<=_;decide) (List.Mem.head _),b9A (hp.mono (List.sublist_cons_self _ _)) (hq.mono (List.sublist_cons_self _ _))⟩
theorem c2f {m:View} (hg:Glob m) {z:Pz} (hz:Pok m z) {n:Nat} (hrec:REC m z n) (d:Int) (i b:Nat) (a:Option Addr) (c:Nat) (ts:List Tok) (h hT:List Res) (hk:Tk2 m hT a c ts) (hs:hT.Sublist h) (hi:i < z.R.length) (hf:z.R.length<=i+n+1) (hd:0<=d/\d<=32) :
 QrX m z 93 [ptV z.bp,.int .i64 d,ptV b] i b a c ts h (c1Z z.R (B9 z.R n) d ts i) (OP m):=by
 have hR:=hz.ok.1;have hq:c1Z z.R (B9 z.R n) d ts i=if isM 2 [80,65,82] ts then F1 ts.tail i fun i=>P8 (B9 z.R n (d+1) false i) fun x i=>P8 (B9 z.R n (d+1) false i) fun y i=>.ok (prM 10 [] A2 [] [] D1 [] [x,y] [] D2,i)
  else U8 2 [65,76,84] ts i fun r=>a0E z.R (B9 z.R n) 13 a6Z d r i:=rfl
 refine CX.body Tryz.call93 Tryz.func93 rfl Tryz.ntmps93 Lb rfl ?_;refine j0 ?_;refine xW fun b6=>?_
 refine kQ0 [0,1,2,6] ?_;refine kA1 ?_;refine xf (E1 Ek) (J5 _ _ _) ?_;refine pD (lnR b a ts.length c) ?_;refine xg (E2 Et Et) (K2 b a c ts _ _ _ hk (hs.trans Sb)) ?_;rintro _ _ ⟨a10,u10,r10,rfl,he10,hk10,rfl⟩;refine kQ0 [0,1,2,6,10] ?_;refine wc (fun c10=>?_) fun c10=>?_
 replace he10:=he10.trans (if_pos c10);subst r10;rw[if_pos c10] at hq;refine kA2 ?_;refine WL.perm ((Del.perm (r:=psR z i) De).trans ((Del.perm (r:=lnR b a10 ts.tail.length u10) De).cons _)) ?_;refine A0 Ef (E3 Et Ek Et) (a9B hz 10 i b a10 u10 ts.tail _ hi) Lb (fun v hv hx=>?_) fun v13 h13 hr13=>?_
 ·obtain⟨hx1,rfl,rfl⟩:=hx;rw[L8 hx1] at hq;exact prP Tryz.f93 hq Sb
 obtain⟨hz13,rfl,rfl⟩:=hr13;rw[L9 hz13] at hq;refine xW fun b7=>?_
 refine kQ1 [0,1,6,7] ?_;refine kA3 ?_;refine pD (psR z (i+1)) ?_;refine A0 Ef (E3 Et Et Ek) (hrec (i+1) _ _ _ (by omega) (by omega) (by omega)) Lb (fun v hv hx=>?_) fun v17 h17 hr17=>?_
 ·obtain⟨e,j,hx1,rfl,rfl⟩:=hx;(first | rw[hx1] at hq | rw[I5 hx1] at hq);exact prP Tryz.f93 hq Sb
 obtain⟨x17,j17,bl17,hM17,hj17,⟨p17,rfl,rfl,hO17⟩,rfl⟩:=hr17;refine WL.perm ((Mv.perm).cons _) ?_;rw[hM17,O1] at hq;refine kA3 ?_;refine pD (psR z j17) ?_;refine A0 Ef (E3 Et Et Ek) (hrec j17 _ _ _ (by omega) (by omega) (by omega)) Lb (fun v hv hx=>?_) fun v21 h21 hr21=>?_
 ·obtain⟨e,j,hx1,rfl,rfl⟩:=hx;(first | rw[hx1] at hq | rw[I5 hx1] at hq);exact prP Tryz.f93 hq Sb
 obtain⟨x21,j21,bl21,hM21,hj21,⟨p21,rfl,rfl,hO21⟩,rfl⟩:=hr21;refine WL.perm ((Mv.perm).cons _) ?_;rw[hM21,O1] at hq;refine xY (cs:=prE p17++prE p21) Z8 Eb fun b22=>?_
 refine WL.perm (Mv.perm (bl:=[_])) ?_;refine kQ2 [6,7] ?_;refine kQ2 [6] ?_;refine xT (psR z j21::(b2u b22 p17 p21::(bl21++(bl17++h)))) (h1:=cA S1) ?_;exact⟨_,_,b2u b22 p17 p21::(bl21++bl17),hq,⟨by omega,hj21.2⟩,⟨.mk 10 [] A2 B7 B7 D1 none 0 [] (some ⟨b22,0,none⟩) 2 [p17,p21] B7 D2,rfl,R4 _,a4a (by decide) (Nat.zero_le _) (E6 _ _) (F5 _ _) (F5 _ _) (U1 _ _) (a0b _ _) (ls2 b22 (hO17.mono (List.sublist_append_right _ _)) (hO21.mono (List.sublist_append_left _ _))) (W7 _ _) (Q5 _ _)⟩,by rw[List.cons_append,List.append_assoc]⟩;replace he10:=he10.trans (if_neg (G6 c10));subst r10;rw[if_neg (G6 c10)] at hq;refine kQ0 [0,1,2,6] ?_;refine kA1 ?_;refine xf (E1 Ek) (J5 _ _ _) ?_;refine xY A6 Eb fun b27=>?_
 refine pD (lnR b a10 ts.length u10) ?_;refine A0 Ef (E2 Et Et) (M9 b a10 u10 ts _ _ _ _ _ hk10 (hs.trans Sb) (Rd.ofPt rfl (by decide) Me)) Lb (fun v hv hx=>?_) fun v28 h28 hr28=>?_
 ·obtain⟨hx1,rfl,rfl⟩:=hx;rw[a1J hx1] at hq;exact prP Tryz.f93 hq Sb
 obtain⟨hi28,a28,u28,hk28,rfl⟩:=hr28;rw[a1u hi28] at hq;refine kQ0 [0,1,2,6] ?_;refine kA3 ?_;refine WL.perm ((Del.perm (r:=psR z i) De).trans ((Del.perm (r:=lnR b a28 ts.tail.length u28) De).cons _)) ?_;refine A0 Ef (Evs.cons Et (Evs.cons Ek (Evs.cons Et (Evs.cons Et (Evs.cons Ef Evs.nil))))) (a5q hg hz hrec 13 (by decide) _ a6Z (fun b a c ts h hT=>b8n hg b a c ts h hT) d i b a28 u28 ts.tail _ _ hk28 (hs.trans Sb) hi hf hd) Lb (fun v hv hx=>?_) fun v32 h32 hr32=>?_
 ·obtain⟨e,j,hx1,rfl,rfl⟩:=hx;(first | rw[hx1] at hq | rw[I5 hx1] at hq);exact prP Tryz.f93 hq Sb
 obtain⟨x32,j32,bl32,hM32,hj32,⟨p32,rfl,rfl,hO32⟩,rfl⟩:=hr32;refine WL.perm ((Mv.perm).cons _) ?_;rw[hM32] at hq;refine kQ1 [6] ?_;refine xT (psR z j32::(bl32++h)) (h1:=cA S1) ?_;exact⟨_,_,bl32,hq,hj32,⟨p32,rfl,rfl,hO32⟩,rfl⟩
theorem b5U (r:List Tok):b3a r=if r.length=1/\(r.getD 0 zeroK).kind=3/\0<=(r.getD 0 zeroK).n/\(r.getD 0 zeroK).n < 8 then some (r.getD 0 zeroK).n else none:=by
 cases r with
 | nil=>rfl
 | cons t r=>
  cases r with
  | nil=>
   show(if t.kind=3/\0<=t.n/\t.n < 8 then some t.n else none)=_;by_cases h:t.kind=3/\0<=t.n/\t.n < 8
   ·rw[if_pos h,if_pos ⟨rfl,h⟩];rfl
   ·rw[if_neg h,if_neg fun q=>h q.2]
  | cons u r=>
   rw[if_neg]
   ·rfl
   ·intro q
    have:=q.1;simp only[List.length_cons] at this;omega
theorem b6N {n:Nat} (h:(!((n:Int) != 1))=true):0 < n:=by simp at h;omega
theorem b6l {n:Nat} {b:Bool} (h:(!(((n:Int) != 1)||b))=true):0 < n:=by simp at h;omega
theorem b7R {n:Nat} {b b2:Bool} (h:(!((((n:Int) != 1)||b)||b2))=true):0 < n:=by simp at h;omega
theorem b8N {n:Nat} {k v:Int} (h:(((((n:Int) != 1)||(k != 3))||decide (v < 0))||decide (v >= 8))=true):¬ (n=1/\k=3/\0<=v/\v < 8):=by
 rintro ⟨rfl,rfl,h1,h2⟩;rw[decide_eq_false (by omega),decide_eq_false (by omega)] at h;cases h
theorem b6M {n:Nat} {k v:Int} (h:(((((n:Int) != 1)||(k != 3))||decide (v < 0))||decide (v >= 8))=false):n=1/\k=3/\0<=v/\v < 8:=by
 simp at h;omega
abbrev plX (a:Option Addr) (c:Nat) (l:List Pr) (a2:Option Addr) (c2:Nat) (ns:List Int):Pr:=.mk 11 [] A2 B7 B7 D1 none 0 [] a c l ⟨a2,c2,ns⟩ D2
theorem b4A {m:View} (hg:Glob m) {z:Pz} (hz:Pok m z) {n:Nat} (hrec:REC m z n) (d:Int) (i b:Nat) (a:Option Addr) (c:Nat) (ts:List Tok) (h hT:List Res) (hk:Tk2 m hT a c ts) (hs:hT.Sublist h) (hi:i < z.R.length) (hf:z.R.length<=i+n+1) (hd:0<=d/\d<=32) :
 QrX m z 98 [ptV z.bp,.int .i64 d,ptV b] i b a c ts h (a6v z.R (B9 z.R n) d ts i) (OP m):=by
 have hR:=hz.ok.1;have hq:a6v z.R (B9 z.R n) d ts i=U8 2 [80,65,82] ts i fun r=>F1 r i fun i=>P8 (W0 z.R (B9 z.R n) d (z.R.length - i) [] [] i) fun x i=>.ok (prM 11 [] A2 [] [] D1 [] x.2 x.1 D2,i):=rfl
 refine CX.body Tryz.call98 Tryz.func98 rfl Tryz.ntmps98 Lb rfl ?_;refine j0 ?_;refine xW fun b6=>?_
 refine kQ0 [0,1,2,6] ?_;refine kA1 ?_;refine xf (E1 Ek) (J5 _ _ _) ?_;refine xY A6 Eb fun b11=>?_
 refine pD (lnR b a ts.length c) ?_;refine A0 Ef (E2 Et Et) (M9 b a c ts _ _ _ _ _ hk (by first | exact F4 Me | exact hs.trans Sb) (Rd.ofPt rfl (by decide) Me)) Lb (fun v hv hx=>?_) fun v12 h12 hr12=>?_
 ·obtain⟨hx1,rfl,rfl⟩:=hx;rw[a1J hx1] at hq;exact prP Tryz.f98 hq Sb
 obtain⟨hi12,a12,u12,hk12,rfl⟩:=hr12;rw[a1u hi12] at hq;refine kQ0 [0,1,2,6] ?_;refine kA2 ?_;refine WL.perm ((Del.perm (r:=psR z i) De).trans ((Del.perm (r:=lnR b a12 ts.tail.length u12) De).cons _)) ?_;refine A0 Ef (E3 Et Ek Et) (a9B hz 11 i b a12 u12 ts.tail _ hi) Lb (fun v hv hx=>?_) fun v15 h15 hr15=>?_
 ·obtain⟨hx1,rfl,rfl⟩:=hx;rw[L8 hx1] at hq;exact prP Tryz.f98 hq Sb
 obtain⟨hz15,rfl,rfl⟩:=hr15;rw[L9 hz15] at hq;refine xW fun b7=>?_
 refine kA1 ?_;refine WL.addNil 3 1 ?_;refine WL.addNil 46 42 ?_;refine pD (psR z (i+1)) ?_;refine kQ0 [0,1,6,7] ?_
 refine B0 [0,1,6,7] rfl (fun μ F' h'=>∃ a9:Option Addr,∃ c9:Nat,∃ l:List Pr,∃ an:Option Addr,∃ cn:Nat,∃ ns:List Int,∃ bl:List Res,∃ k:Nat,∃ j:Nat,((l.length+i+1<=j/\j<=z.R.length/\z.R.length<=j+k)/\((∀ x ∈ l,POk m bl x)/\(∀ x ∈ ns,-9223372036854775808<=x/\x<=9223372036854775807)/\ns.length=l.length)/\a6v z.R (B9 z.R n) d ts i=P8 (W0 z.R (B9 z.R n) d k ns (l.map stP) j) fun x i=>.ok (prM 11 [] A2 [] [] D1 [] x.2 x.1 D2,i))/\k=μ/\F'=[]/\psR z j::.row (.slice a9 l.length c9) 46 42 l.length (fl prE l)::.row (.slice an ns.length cn) 3 1 ns.length (fl a3e ns)::prR b7 (plX a9 c9 l an cn ns)::prR b6 (p0 0 [] A2 B7 B7 D1)::(bl++h)=h') ((z.R.length - (i+1))) [] (h0:=psR z (i+1)::.row (.slice none ([]).length 0) 46 42 ([]).length (fl prE ([]))::.row (.slice none ([]).length 0) 3 1 ([]).length (fl a3e ([]))::prR b7 (plX none 0 ([]) none 0 ([]))::prR b6 (p0 0 [] A2 B7 B7 D1)::(([])++h)) ?_ Sb ⟨none,0,[],none,0,[],[],z.R.length - (i+1),i+1,⟨⟨by simp,by omega,by omega⟩,⟨fun _ hx=>(List.not_mem_nil hx).elim,fun _ hx=>(List.not_mem_nil hx).elim,rfl⟩,hq⟩,rfl,rfl,rfl⟩ ?_
 exact Su;rintro _ _ _ ⟨a9,c9,l,an,cn,ns,bl,k,j,⟨⟨hl,hj,hk⟩,⟨hS,hN,hNl⟩,hq⟩,rfl,rfl,rfl⟩;refine B1 rfl ?_;have hlm:(l.map stP).length=l.length:=List.length_map _;refine a6M ?_;refine F6 (X5 rfl rfl) (fun hc=>M2 (Eg hc) Ek (by first | omega | (simp at hc;omega))) Lb ?_;refine A7 (X5 rfl rfl) (fun hc=>⟨Ef,(E2 (Eg hc) (Eg hc)),a4S hz j (d+1) _ Me⟩) Lb ?_;refine zG (fun hc=>Q4 hc rfl rfl) ?_;refine kQ1 [0,1,6,7,31] ?_;refine wc (fun c31=>?_) fun c31=>?_
 change (((l.length:Int)==0)||(decide ((l.length:Int) < 8)&&O3 z.R (d+1) j))=true at c31
 have hc:(l.map stP).length=0\/((l.map stP).length < 8/\O3 z.R (d+1) j=true):=by
  simp only[Bool.or_eq_true,Bool.and_eq_true,decide_eq_true_eq,beq_iff_eq] at c31;rw[hlm];exact c31.imp (fun q=>by omega) fun q=>⟨by omega,q.2⟩
 rw[b59 hk hc] at hq;refine kQ0 [0,1,6,7] ?_;refine kA3 ?_;refine pD (psR z j) ?_;refine A0 Ef (E2 Et Et) (a2p hg hz j _ _ (by omega)) Lb (fun v hv hx=>?_) fun v35 h35 hr35=>?_
 ·obtain⟨e,j,hx1,rfl,rfl⟩:=hx;(first | rw[hx1] at hq | rw[I5 hx1] at hq);exact prP Tryz.f98 hq Sb
 obtain⟨r35,b35,a35,u35,hM35,rfl,hk35,rfl⟩:=hr35;have ho35:=a0O hz hM35;rw[a3k hM35] at hq;refine kQ1 [0,1,6,7,8] ?_;refine kA1 ?_;refine xf (E1 Ek) (J5 _ _ _) ?_;refine xY A6 Eb fun b38=>?_
 refine pD (lnR b35 a35 r35.length u35) ?_;refine A0 Ef (E2 Et Et) (M9 b35 a35 u35 r35 _ _ _ _ _ hk35 (by first | exact F4 Me | exact hs.trans Sb) (Rd.ofPt rfl (by decide) Me)) Lb (fun v hv hx=>?_) fun v39 h39 hr39=>?_
 ·obtain⟨hx1,rfl,rfl⟩:=hx;rw[a1J hx1] at hq;exact prP Tryz.f98 hq Sb
 obtain⟨hi39,a39,u39,hk39,rfl⟩:=hr39;rw[a1u hi39] at hq;refine kQ0 [0,1,6,7,8] ?_;obtain⟨t,ht⟩:∃ t,t=r35.tail.getD 0 zeroK:=⟨_,rfl⟩;have hel0:0 < r35.tail.length->r35.tail[0]?=some t:=fun hq=>by rw[ht,List.getD_eq_getElem?_getD,List.getElem?_eq_getElem hq];rfl
 have hrd:=(hk39.mono (h':=tkW a35 u35 r35::[psR z j]) (F4 (List.Mem.head _))).k.rd;have hpm:=b5U r35.tail;rw[<- ht] at hpm;refine kA8 ?_;refine zG (fun hc=>PO.nilCheck (Eg hc)) ?_;refine kA2 ?_;refine zG (fun hc=>G1 A6.und A6.size A6.posz (Eg hc) Ek Rr rfl (q:=0) (b6N hc)) ?_;refine zG (fun hc=>H4 H2 rfl (Nat.ne_of_beq_eq_false rfl) B4 (Nat.succ_pos _) Rr (hel0 (b6N hc)) (Eg hc)) ?_;refine zG (fun hc=>H5 a5P rfl B4 Rr (Eg hc) (hel0 (b6N hc)) rfl) ?_;refine kA4 ?_;refine zG (fun hc=>PO.nilCheck (Eg hc)) ?_;refine kA2 ?_;refine zG (fun hc=>G1 A6.und A6.size A6.posz (Eg hc) Ek Rr rfl (q:=0) (b6l hc)) ?_;refine zG (fun hc=>H4 H2 rfl (Nat.ne_of_beq_eq_false rfl) B4 (Nat.succ_pos _) Rr (hel0 (b6l hc)) (Eg hc)) ?_;refine zG (fun hc=>H5 a2o rfl B4 Rr (Eg hc) (hel0 (b6l hc)) rfl) ?_;refine kA4 ?_;refine zG (fun hc=>PO.nilCheck (Eg hc)) ?_;refine kA2 ?_
 refine zG (fun hc=>G1 A6.und A6.size A6.posz (Eg hc) Ek Rr rfl (q:=0) (b7R hc)) ?_;refine zG (fun hc=>H4 H2 rfl (Nat.ne_of_beq_eq_false rfl) B4 (Nat.succ_pos _) Rr (hel0 (b7R hc)) (Eg hc)) ?_;refine zG (fun hc=>H5 a2o rfl B4 Rr (Eg hc) (hel0 (b7R hc)) rfl) ?_;refine kQ2 [0,1,6,7,8,75] ?_;refine wc (fun c75=>?_) fun c75=>?_
 rw[if_neg (b8N c75)] at hpm;rw[hpm] at hq;refine j0 ?_;refine A0 Ef Evs.nil (H8 _ _) Lb (fun v hv hx=>?_) fun v76 h76 hr76=>?_
 ·obtain⟨rfl,rfl⟩:=hx;exact prP Tryz.f98 hq Sb
 exact hr76.elim;have d75:=b6M c75;rw[if_pos d75] at hpm;rw[hpm] at hq;dsimp only at hq;have hel:=hel0 (by omega);have h1l:=d75.1;refine kQ0 [0,1,6,7,8] ?_;refine dS [10] (.op 0 (.op 1 (.op 2 (.op 3 (.op 4 (.op 5 (.op 6 (.op 7 (.op 8 (.op 9 (.op 10 .nil))))))))))) [11,12,13] D6 ?_;refine kA6 ?_;refine yG rfl (G1 A6.und A6.size A6.posz (Ev.tmp rfl) Ek Rr rfl (q:=0) (by omega)) ?_;refine kA2 ?_;refine yG rfl (PO.conv a2o uu3 Et) ?_;refine SR.val (v':=.int .i64 t.n) (congrArg (Value.int .i64) (Go.Ty.wrapN ⟨by omega,by omega⟩)) ?_;refine sB rfl c1C fun b87=>?_
 refine SR.nil rfl rfl ?_;have hln1:(ns++[t.n]).length=ns.length+1:=List.length_append;refine xD c1C (Ev.tmp rfl) (Ev.tmp rfl) (show ns.length+1=(ns++[t.n]).length by simp) (E9 (enc:=a3e) _ (t.n)) fun a88 c88=>?_
 refine kQ2 [0,1,6,7,8] ?_;refine kQ4 [0,1,6,7,8] ?_;refine kA2 ?_;refine WL.perm ((Del.perm (r:=psR z j) De).trans ((Del.perm (r:=lnR b35 none 0 0) De).cons _)) ?_;refine A0 Ef (E2 Et Et) (K5 hz j b35 none 0 [] _ (by omega)) Lb (fun v hv hx=>?_) fun v95 h95 hr95=>?_
 ·exact absurd rfl hx.1
 obtain⟨-,rfl⟩:=hr95;refine wn [0,1,6,7] ?_;refine jE ?_;refine WC.drop (h':=psR z (j+1)::.row (.slice a9 l.length c9) 46 42 l.length (fl prE l)::.row (.slice a88 (ns++[t.n]).length c88) 3 1 (ns++[t.n]).length (fl a3e (ns++[t.n]))::prR b7 (plX a9 c9 l a88 c88 (ns++[t.n]))::prR b6 (p0 0 [] A2 B7 B7 D1)::(bl++h)) Sb ?_;refine WC.take (r:=psR z (j+1)) De ?_;refine F2 [5,6] (.op 0 (.op 1 (.op 2 (.op 3 (.op 4 (.op 5 (.op 6 .nil))))))) [7,8,9] _ [_] D6 (fun _ _ _ _ _ h=>h) [] (by kernel_rfl) ?_;refine kA4 ?_;refine yG rfl (M2 Et Ek (by omega)) ?_;refine a1e rfl rfl Ef (E3 Et Et Ek) (fun fr=>c1W hrec (j+1) (d+2) false _ (by omega) (by omega) (by omega)) Lb (fun fr v hv hx=>?_) fun v101 h101 hr101=>?_
 ·obtain⟨e,j2,hx1,rfl,rfl⟩:=hx
  rw[hx1] at hq;exact prP Tryz.f98 hq ((a1M Sb fr).cons_cons _)
 obtain⟨p101,j101,bl101,hM101,hj101,rfl,hO101,rfl⟩:=hr101;refine sB rfl Z8 fun b102=>?_
 refine a1G (H:=prR b102 p101::psR z j101::.row (.slice a9 l.length c9) 46 42 l.length (fl prE l)::.row (.slice a88 (ns++[t.n]).length c88) 3 1 (ns++[t.n]).length (fl a3e (ns++[t.n]))::prR b7 (plX a9 c9 l a88 c88 (ns++[t.n]))::prR b6 (p0 0 [] A2 B7 B7 D1)::(bl101++(bl++h))) rfl (((V2 bl101 [_,_,_,_] (bl++h)).cons _).cons _) ?_;have hln:(l++[p101]).length=l.length+1:=List.length_append;refine xD Z8 (Ev.tmp rfl) (Ev.tmp rfl) (show l.length+1=(l++[p101]).length by simp) (E9 (enc:=prE) _ (p101)) fun a103 c103=>?_
 refine kA2 ?_;rw[hM101,O1] at hq;rw[<- List.append_assoc bl101 bl];have hm2:(l++[p101]).map stP=l.map stP++[stP p101]:=by rw[List.map_append,List.map_singleton]
 refine WL.nil (A4 ((k - 1)) [] (h'':=psR z j101::.row (.slice a103 (l++[p101]).length c103) 46 42 (l++[p101]).length (fl prE (l++[p101]))::.row (.slice a88 (ns++[t.n]).length c88) 3 1 (ns++[t.n]).length (fl a3e (ns++[t.n]))::prR b7 (plX a103 c103 (l++[p101]) a88 c88 (ns++[t.n]))::prR b6 (p0 0 [] A2 B7 B7 D1)::((bl101++bl)++h)) (by omega) ?_ Su Sb ⟨a103,c103,l++[p101],a88,c88,ns++[t.n],bl101++bl,k - 1,j101,⟨⟨by omega,by omega,by omega⟩,⟨V4 (fun y hy=>(hS y hy).mono (List.sublist_append_right _ _)) (hO101.mono (List.sublist_append_left _ _)),V4 hN ⟨by omega,by omega⟩,by omega⟩,hq.trans (by rw[hm2])⟩,rfl,rfl,rfl⟩);exact Su;change (((l.length:Int)==0)||(decide ((l.length:Int) < 8)&&O3 z.R (d+1) j))=false at c31
 have hc:¬ ((l.map stP).length=0\/((l.map stP).length < 8/\O3 z.R (d+1) j=true)):=fun q=>by
  rw[hlm] at q;have:(((l.length:Int)==0)||(decide ((l.length:Int) < 8)&&O3 z.R (d+1) j))=true:=by
   simp only[Bool.or_eq_true,Bool.and_eq_true,decide_eq_true_eq,beq_iff_eq];exact q.imp (fun q=>by omega) fun q=>⟨by omega,q.2⟩
  rw[this] at c31;cases c31
 rw[b1v hc,O1] at hq;refine O8 (a:=a9) Me fun p9 q9 r9=>?_
 refine O8 (a:=an) Me fun p8 q8 r8=>?_
 refine kQ0 [6,7] ?_;refine kQ2 [6] ?_;refine xT (psR z j::(.row (.slice a9 l.length c9) 46 42 l.length (fl prE l)::.row (.slice an ns.length cn) 3 1 ns.length (fl a3e ns)::(bl++h))) (h1:=cA S1) ?_;exact⟨_,_,.row (.slice a9 l.length c9) 46 42 l.length (fl prE l)::.row (.slice an ns.length cn) 3 1 ns.length (fl a3e ns)::bl,hq,⟨by omega,hj⟩,⟨plX a9 c9 l an cn ns,rfl,R4 _,a4a (by decide) (Nat.zero_le _) (E6 _ _) (F5 _ _) (F5 _ _) (U1 _ _) (a0b _ _) ⟨Rd.inRow (List.Mem.head _) r9 p9 q9,fun x hx=>(hS x hx).mono (((List.Sublist.refl _).cons _).cons _)⟩ ⟨Rd.inRow (List.Mem.tail _ (List.Mem.head _)) r8 p8 q8,hN⟩ (Q5 _ _)⟩,rfl⟩
end
section
open Go.Eng Go.Pc Go.Sx Go
open Go.Xp hiding B D5
open Go.Ty (Ty Vr Tok eqT tyV I4 B2 B4 R1 zeroK L7 D3)
open Go.Lx (encB C4 lexO)
open Go.Ly (Rw O6 G8)
theorem b0e {α:Type} {take:List Tok->E α} {sep:B}:∀ {n:Nat} {acc:List α} {ts:List Tok} {l:List α} {r:List Tok},1<=acc.length->a1S take sep n acc ts=.ok (l,r)->1<=l.length
 | 0,acc,ts,l,r,h0,h=>by
  unfold a1S at h;split at h
  ·cases h
  ·cases h;exact h0
 | n+1,acc,ts,l,r,h0,h=>by
  unfold a1S at h;split at h
  ·cases ht:take ts.tail with
   | error e=>rw[ht] at h;cases h
   | ok x=>
    obtain⟨x,r2⟩:=x;rw[ht,H3] at h;exact b0e (by rw[List.length_append];omega) h
  ·cases h;exact h0
theorem b7a {α:Type} {take:List Tok->E α} {sep:B} {n:Nat} {ts:List Tok} {l:List α} {r:List Tok} (h:P0 take sep n ts=.ok (l,r)):1<=l.length:=by
 unfold P0 at h;cases ht:take ts with
 | error e=>rw[ht] at h;cases h
 | ok x=>
  obtain⟨x,r2⟩:=x;rw[ht,H3] at h;exact b0e (Nat.le_refl _) h
set_option maxHeartbeats 2000000 in
theorem b5G {m:View} (hg:Glob m) {z:Pz} (hz:Pok m z) {n:Nat} (hrec:REC m z n) (d:Int) (i b:Nat) (a:Option Addr) (c:Nat) (ts:List Tok) (h hT:List Res) (hk:Tk2 m hT a c ts) (hs:hT.Sublist h) (hi:i < z.R.length) (hf:z.R.length<=i+n+1) (hd:0<=d/\d<=32) (h0:0 < ts.length) :
 QrX m z 51 [ptV z.bp,.int .i64 d,ptV b] i b a c ts h (a3y z.R (B9 z.R n) d ts i) (OP m):=by
 have hR:=hz.ok.1;have hq:a3y z.R (B9 z.R n) d ts i=if (ts.headD Go.Ty.zeroK).kind=1/\isM 5 [40] ts.tail=true then H6 (U6 ts) i fun n r=>H6 (brM L6 r) i fun l r=>F1 r i fun i=>.ok (prM 17 n A2 [] l D1 [] [] [] D2,i)
  else H6 (P0 K6 [44] 8 ts) i fun f r=>
  if isM 5 [58,61] r then H6 (P0 L6 [44] 8 r.tail) i fun l r=>F1 r i fun i=>.ok (prM 3 [] A2 f l D1 [] [] [] D2,i)
  else if f.length > 1 then .error (110,i)
  else if isM 5 [33] r then H6 (P0 L6 [59] 9 r.tail) i fun l r=>F1 r i fun i=>.ok (prM 5 [] (f.headD A2) [] l D1 [] [] [] D2,i)
  else U8 5 [63] r i fun r=>
   if isM 2 [67,65,83,69] r then F1 r.tail i fun i=>P8 (a1K z.R (B9 z.R n) b1S 1 16 (d+1) i) fun l i=>.ok (prM 7 [] (f.headD A2) [] [] D1 l [] [] D2,i)
   else if isM 2 [65,70,84,69,82] r then H6 (L6 r.tail) i fun e r=>F1 r i fun i=>.ok (prM 6 [] (f.headD A2) [] [e] D1 [] [] [] D2,i)
   else H6 (P0 K6 [59] 8 r) i fun l r=>F1 r i fun i=>.ok (prM 4 [] (f.headD A2) l [] D1 [] [] [] D2,i):=rfl
 have hrd:=(hk.mono hs).k.rd;obtain⟨t,ht⟩:∃ t,t=ts.getD 0 zeroK:=⟨_,rfl⟩;have hel:ts[0]?=some t:=by rw[ht,List.getD_eq_getElem?_getD,List.getElem?_eq_getElem h0];rfl
 rw[b4K,<- ht] at hq;refine CX.body Tryz.call51 Tryz.func51 rfl Tryz.ntmps51 Lb rfl ?_;refine j0 ?_;refine xW fun b6=>?_
 refine kQ0 [0,1,2,6] ?_;refine kA1 ?_;refine xW fun b7=>?_
 refine kQ1 [0,1,2,6,7] ?_;refine kA4 ?_;refine xG (a0c A6.und A6.size Et Ek (l:=1) rfl (by omega)) ?_;refine kA1 ?_;refine xW fun b8=>?_
 refine kQ1 [0,1,2,6,7,8] ?_;refine kA4 ?_;refine xG (G1 A6.und A6.size A6.posz (Ev.tmp rfl) Ek Rr rfl (q:=0) (by omega)) ?_;refine kA4 ?_;refine A7 (GU.t rfl rfl) (fun hc=>⟨Ef,(E1 Ek),G5 _ _ _⟩) Lb ?_;refine A7 (GU.t rfl rfl) (fun hc=>⟨Ef,(E2 Et (Eg hc)),a1Z b8 (sl1 a 1 c 4) (c - 1) ts.tail _ _ hT (by rw[List.length_tail];exact List.mem_cons_self ..) (hk.tail h0) (hs.trans Sb)⟩) Lb ?_;refine kQ1 [0,1,2,6,7,28] ?_;refine wc (fun c28=>?_) fun c28=>?_
 have d28:t.kind=1/\isM 5 [40] ts.tail=true:=by simpa using c28
 rw[if_pos d28] at hq;refine kA1 ?_;refine pD (lnR b a ts.length c) ?_;refine A0 Ef (E1 Et) (a0F b a c ts _ _ hk (hs.trans Sb)) Lb (fun v hv hx=>?_) fun v30 h30 hr30=>?_
 ·obtain⟨e,hx1,rfl,rfl⟩:=hx;rw[hx1] at hq;exact prP Tryz.f51 hq Sb
 obtain⟨x30,r30,a30,u30,hM30,⟨rfl,hw30⟩,hk30,rfl⟩:=hr30;rw[hM30,I0] at hq;refine kQ4 [0,2,6,7] ?_;refine kA2 ?_;refine xG (PO.makeFunc (E1 Et) Evs.nil) ?_;refine pD (lnR b a30 r30.length u30) ?_;refine A0 Ef (E2 Et Et) (b9f 84 L6 b a30 u30 r30 _ _ hk30 (hs.trans Sb) (fun a c ts h hk hs=>R8 hg b a c ts h _ hk hs)) Lb (fun v hv hx=>?_) fun v36 h36 hr36=>?_
 ·obtain⟨e,hx1,rfl,rfl⟩:=hx;rw[hx1] at hq;exact prP Tryz.f51 hq Sb
 obtain⟨x36,r36,a36,u36,bl36,hM36,⟨s36,rfl,rfl,hO36⟩,hk36,rfl⟩:=hr36;refine WL.perm ((Mv.perm).cons _) ?_;rw[hM36,I0] at hq;refine kQ2 [0,2,6,7] ?_;refine kA2 ?_;refine WL.perm ((Del.perm (r:=psR z i) De).trans ((Del.perm (r:=lnR b a36 r36.length u36) De).cons _)) ?_;refine A0 Ef (E2 Et Et) (K5 hz i b a36 u36 r36 _ (by omega)) Lb (fun v hv hx=>?_) fun v40 h40 hr40=>?_
 ·obtain⟨hx1,rfl,rfl⟩:=hx;rw[L8 hx1] at hq;exact prP Tryz.f51 hq Sb
 obtain⟨hz40,rfl⟩:=hr40;rw[L9 hz40] at hq;refine kQ0 [6,7] ?_;refine kQ2 [6] ?_;refine xT (psR z (i+1)::(bl36++h)) (h1:=cA S1) ?_;exact⟨_,_,bl36,hq,⟨by omega,by omega⟩,⟨.mk 17 x30 A2 B7 s36 D1 none 0 [] none 0 [] B7 D2,rfl,R4 _,a4a (by decide) hw30 (E6 _ _) (F5 _ _) hO36 (U1 _ _) (a0b _ _) (a2w _ _) (W7 _ _) (Q5 _ _)⟩,rfl⟩;have d28:¬ (t.kind=1/\isM 5 [40] ts.tail=true):=fun q=>by
  have:((t.kind==1)&&isM 5 [40] ts.tail)=true:=by simpa using q
  exact absurd (this.symm.trans c28) (by decide)
 rw[if_neg d28] at hq;refine kQ0 [0,1,2,6,7] ?_;refine kA2 ?_;refine xG (PO.makeFunc (E1 Et) Evs.nil) ?_;refine pD (lnR b a ts.length c) ?_;refine A0 Ef (E4 Et Ek Ek Et) (a0r 87 K6 [44] 8 b a c ts _ _ hk (hs.trans Sb) (by decide) (fun a c ts h hk hs=>a0e hg b a c ts h _ hk hs)) Lb (fun v hv hx=>?_) fun v45 h45 hr45=>?_
 ·obtain⟨e,hx1,rfl,rfl⟩:=hx;rw[hx1] at hq;exact prP Tryz.f51 hq Sb
 obtain⟨x45,r45,a45,u45,bl45,hM45,⟨s45,rfl,rfl,hO45⟩,hk45,rfl⟩:=hr45;refine WL.perm ((Mv.perm).cons _) ?_;rw[hM45,I0] at hq;refine kQ1 [0,1,2,6,7,9] ?_;refine kA1 ?_;refine xf (E1 Ek) (G5 _ _ _) ?_;refine pD (lnR b a45 r45.length u45) ?_;refine xg (E2 Et Et) (K2 b a45 u45 r45 _ _ _ hk45 (hs.trans Sb)) ?_;rintro _ _ ⟨a49,u49,r49,rfl,he49,hk49,rfl⟩;refine kQ1 [0,1,2,6,7,9,46] ?_;refine wc (fun c46=>?_) fun c46=>?_
 replace he49:=he49.trans (if_pos c46);subst r49;rw[if_pos c46] at hq;refine kA3 ?_;refine xG (PO.makeFunc (E1 Et) Evs.nil) ?_;refine pD (lnR b a49 r45.tail.length u49) ?_;refine A0 Ef (E4 Et Ek Ek Et) (a0r 84 L6 [44] 8 b a49 u49 r45.tail _ _ hk49 (hs.trans Sb) (by decide) (fun a c ts h hk hs=>R8 hg b a c ts h _ hk hs)) Lb (fun v hv hx=>?_) fun v54 h54 hr54=>?_
 ·obtain⟨e,hx1,rfl,rfl⟩:=hx;rw[hx1] at hq;exact prP Tryz.f51 hq Sb
 obtain⟨x54,r54,a54,u54,bl54,hM54,⟨s54,rfl,rfl,hO54⟩,hk54,rfl⟩:=hr54;refine WL.perm ((Mv.perm).cons _) ?_;rw[hM54,I0] at hq;refine kQ4 [0,2,6,7] ?_;refine kA2 ?_;refine WL.perm ((Del.perm (r:=psR z i) De).trans ((Del.perm (r:=lnR b a54 r54.length u54) De).cons _)) ?_;refine A0 Ef (E2 Et Et) (K5 hz i b a54 u54 r54 _ (by omega)) Lb (fun v hv hx=>?_) fun v59 h59 hr59=>?_
 ·obtain⟨hx1,rfl,rfl⟩:=hx;rw[L8 hx1] at hq;exact prP Tryz.f51 hq Sb
 obtain⟨hz59,rfl⟩:=hr59;rw[L9 hz59] at hq;refine kQ0 [6,7] ?_;refine kQ2 [6] ?_;refine xT (psR z (i+1)::(bl54++(bl45++h))) (h1:=cA S1) ?_;exact⟨_,_,bl54++bl45,hq,⟨by omega,by omega⟩,⟨.mk 3 [] A2 s45 s54 D1 none 0 [] none 0 [] B7 D2,rfl,R4 _,a4a (by decide) (Nat.zero_le _) (E6 _ _) (hO45.mono (List.sublist_append_right _ _)) (hO54.mono (List.sublist_append_left _ _)) (U1 _ _) (a0b _ _) (a2w _ _) (W7 _ _) (Q5 _ _)⟩,by rw[List.append_assoc]⟩;replace he49:=he49.trans (if_neg (G6 c46));subst r49;rw[if_neg (G6 c46)] at hq;refine kQ4 [0,1,2,6,7,9,61] ?_;refine wc (fun c61=>?_) fun c61=>?_
 replace c61:=dT c61;rw[if_pos (by rw[List.length_map];omega)] at hq;refine j0 ?_;refine A0 Ef Evs.nil (H8 _ _) Lb (fun v hv hx=>?_) fun v65 h65 hr65=>?_
 ·obtain⟨rfl,rfl⟩:=hx;exact prP Tryz.f51 hq Sb
 exact hr65.elim;replace c61:=dF c61;rw[if_neg (by rw[List.length_map];omega)] at hq;refine kQ0 [0,1,2,6,7,9] ?_;have hp45:=b7a hM45;rw[List.length_map] at hp45;have hrd45:=hO45.rd;obtain⟨e0,he0⟩:=A5 (l:=s45.l) (k:=0) (by omega);have hE0:EOk m bl45 e0:=hO45.ok e0 (List.mem_of_getElem? he0);have hf0:(s45.l.map B8).headD A2=B8 e0:=by
  cases hs45:s45.l with
  | nil=>rw[hs45] at he0;cases he0
  | cons y r=>rw[hs45] at he0;cases he0;rfl
 rw[hf0] at hq;refine kA1 ?_;refine xG (G1 Y9.und Y9.size Y9.posz (Ev.tmp rfl) Ek Rr rfl (q:=0) (by omega)) ?_;refine kQ3 [0,1,2,6,7] ?_;refine kA1 ?_;refine xf (E1 Ek) (G5 _ _ _) ?_;refine pD (lnR b a49 r45.length u49) ?_;refine xg (E2 Et Et) (K2 b a49 u49 r45 _ _ _ hk49 (hs.trans Sb)) ?_;rintro _ _ ⟨a72,u72,r72,rfl,he72,hk72,rfl⟩;refine kQ0 [0,1,2,6,7,72] ?_;refine wc (fun c72=>?_) fun c72=>?_
 replace he72:=he72.trans (if_pos c72);subst r72;rw[if_pos c72] at hq;refine kA2 ?_;refine xG (PO.makeFunc (E1 Et) Evs.nil) ?_;refine pD (lnR b a72 r45.tail.length u72) ?_;refine A0 Ef (E4 Et Ek Ek Et) (a0r 84 L6 [59] 9 b a72 u72 r45.tail _ _ hk72 (hs.trans Sb) (by decide) (fun a c ts h hk hs=>R8 hg b a c ts h _ hk hs)) Lb (fun v hv hx=>?_) fun v76 h76 hr76=>?_
 ·obtain⟨e,hx1,rfl,rfl⟩:=hx;rw[hx1] at hq;exact prP Tryz.f51 hq Sb
 obtain⟨x76,r76,a76,u76,bl76,hM76,⟨s76,rfl,rfl,hO76⟩,hk76,rfl⟩:=hr76;refine WL.perm ((Mv.perm).cons _) ?_;rw[hM76,I0] at hq;refine kQ4 [0,2,6,7] ?_;refine kA2 ?_;refine WL.perm ((Del.perm (r:=psR z i) De).trans ((Del.perm (r:=lnR b a76 r76.length u76) De).cons _)) ?_;refine A0 Ef (E2 Et Et) (K5 hz i b a76 u76 r76 _ (by omega)) Lb (fun v hv hx=>?_) fun v81 h81 hr81=>?_
 ·obtain⟨hx1,rfl,rfl⟩:=hx;rw[L8 hx1] at hq;exact prP Tryz.f51 hq Sb
 obtain⟨hz81,rfl⟩:=hr81;rw[L9 hz81] at hq;refine kQ0 [6,7] ?_;refine kQ2 [6] ?_;refine xT (psR z (i+1)::(bl76++(bl45++h))) (h1:=cA S1) ?_;exact⟨_,_,bl76++bl45,hq,⟨by omega,by omega⟩,⟨.mk 5 [] e0 B7 s76 D1 none 0 [] none 0 [] B7 D2,rfl,R4 _,a4a (by decide) (Nat.zero_le _) (hE0.mono (List.sublist_append_right _ _)) (F5 _ _) (hO76.mono (List.sublist_append_left _ _)) (U1 _ _) (a0b _ _) (a2w _ _) (W7 _ _) (Q5 _ _)⟩,by rw[List.append_assoc]⟩;replace he72:=he72.trans (if_neg (G6 c72));subst r72;rw[if_neg (G6 c72)] at hq;refine kQ0 [0,1,2,6,7] ?_;refine kA1 ?_;refine xf (E1 Ek) (G5 _ _ _) ?_;refine xY A6 Eb fun b85=>?_
 refine pD (lnR b a72 r45.length u72) ?_;refine A0 Ef (E2 Et Et) (M9 b a72 u72 r45 _ _ _ _ _ hk72 (hs.trans Sb) (Rd.ofPt rfl (by decide) Me)) Lb (fun v hv hx=>?_) fun v86 h86 hr86=>?_
 ·obtain⟨hx1,rfl,rfl⟩:=hx;rw[a1J hx1] at hq;exact prP Tryz.f51 hq Sb
 obtain⟨hi86,a86,u86,hk86,rfl⟩:=hr86;rw[a1u hi86] at hq;refine kQ0 [0,1,2,6,7] ?_;refine kA1 ?_;refine xf (E1 Ek) (J5 _ _ _) ?_;refine pD (lnR b a86 r45.tail.length u86) ?_;refine xg (E2 Et Et) (K2 b a86 u86 r45.tail _ _ _ hk86 (hs.trans Sb)) ?_;rintro _ _ ⟨a96,u96,r96,rfl,he96,hk96,rfl⟩;refine kQ1 [0,1,2,6,7,93] ?_;refine wc (fun c93=>?_) fun c93=>?_
 replace he96:=he96.trans (if_pos c93);subst r96;rw[if_pos c93] at hq;refine kQ2 [0,1,2,6,7] ?_;refine kA2 ?_;refine WL.perm ((Del.perm (r:=psR z i) De).trans ((Del.perm (r:=lnR b a96 r45.tail.tail.length u96) De).cons _)) ?_;refine A0 Ef (E2 Et Et) (K5 hz i b a96 u96 r45.tail.tail _ (by omega)) Lb (fun v hv hx=>?_) fun v100 h100 hr100=>?_
 ·obtain⟨hx1,rfl,rfl⟩:=hx;rw[L8 hx1] at hq;exact prP Tryz.f51 hq Sb
 obtain⟨hz100,rfl⟩:=hr100;rw[L9 hz100] at hq;refine kQ0 [0,1,6,7] ?_;refine kA4 ?_;refine pD (psR z (i+1)) ?_;refine A0 Ef (E4 Et Et Et Ef) (a5z hg hz hrec _ b1S 1 16 _ (i+1) _ (by omega) (by omega) (by omega) (fun b a c ts h hT=>c1l hg b a c ts h hT)) Lb (fun v hv hx=>?_) fun v105 h105 hr105=>?_
 ·obtain⟨e,j,hx1,rfl,rfl⟩:=hx;(first | rw[hx1] at hq | rw[I5 hx1] at hq);exact prP Tryz.f51 hq Sb
 obtain⟨x105,j105,bl105,hM105,hj105,⟨q105,w105,l105,rfl,rfl,hG105⟩,rfl⟩:=hr105;refine WL.perm ((Mv.perm).cons _) ?_;rw[hM105,O1] at hq;refine kQ2 [6,7] ?_;refine kQ2 [6] ?_;refine xT (psR z j105::(bl105++(bl45++h))) (h1:=cA S1) ?_;exact⟨_,_,bl105++bl45,hq,⟨by omega,hj105.2⟩,⟨.mk 7 [] e0 B7 B7 D1 q105 w105 l105 none 0 [] B7 D2,rfl,R4 _,a4a (by decide) (Nat.zero_le _) (hE0.mono (List.sublist_append_right _ _)) (F5 _ _) (F5 _ _) (U1 _ _) (hG105.mono (List.sublist_append_left _ _)) (a2w _ _) (W7 _ _) (Q5 _ _)⟩,by rw[List.append_assoc]⟩;replace he96:=he96.trans (if_neg (G6 c93));subst r96;rw[if_neg (G6 c93)] at hq;refine kA1 ?_;refine xf (E1 Ek) (J5 _ _ _) ?_;refine pD (lnR b a96 r45.tail.length u96) ?_;refine xg (E2 Et Et) (K2 b a96 u96 r45.tail _ _ _ hk96 (hs.trans Sb)) ?_;rintro _ _ ⟨a111,u111,r111,rfl,he111,hk111,rfl⟩;refine kQ1 [0,2,6,7,108] ?_;refine wc (fun c108=>?_) fun c108=>?_
 replace he111:=he111.trans (if_pos c108);subst r111;rw[if_pos c108] at hq;refine kA1 ?_;refine pD (lnR b a111 r45.tail.tail.length u111) ?_;refine A0 Ef (E1 Et) (R8 hg b a111 u111 r45.tail.tail _ _ hk111 (hs.trans Sb)) Lb (fun v hv hx=>?_) fun v113 h113 hr113=>?_
 ·obtain⟨e,hx1,rfl,rfl⟩:=hx;rw[hx1] at hq;exact prP Tryz.f51 hq Sb
 obtain⟨x113,r113,a113,u113,bl113,hM113,⟨t113,rfl,rfl,hO113⟩,hk113,rfl⟩:=hr113;refine WL.perm ((Mv.perm).cons _) ?_;rw[hM113,I0] at hq;refine xY Y9 Eb fun b114=>?_
 refine WL.perm (Mv.perm (bl:=[_])) ?_;refine kQ4 [0,2,6,7] ?_;refine kA2 ?_;refine WL.perm ((Del.perm (r:=psR z i) De).trans ((Del.perm (r:=lnR b a113 r113.length u113) De).cons _)) ?_;refine A0 Ef (E2 Et Et) (K5 hz i b a113 u113 r113 _ (by omega)) Lb (fun v hv hx=>?_) fun v119 h119 hr119=>?_
 ·obtain⟨hx1,rfl,rfl⟩:=hx;rw[L8 hx1] at hq;exact prP Tryz.f51 hq Sb
 obtain⟨hz119,rfl⟩:=hr119;rw[L9 hz119] at hq;refine kQ0 [6,7] ?_;refine kQ2 [6] ?_;refine xT (psR z (i+1)::(exR b114 t113::(bl113++(bl45++h)))) (h1:=cA S1) ?_;exact⟨_,_,exR b114 t113::(bl113++bl45),hq,⟨by omega,by omega⟩,⟨.mk 6 [] e0 B7 ⟨some ⟨b114,0,none⟩,1,[t113]⟩ D1 none 0 [] none 0 [] B7 D2,rfl,R4 _,a4a (by decide) (Nat.zero_le _) (hE0.mono ((List.sublist_append_right _ _).cons _)) (F5 _ _) ((c2t b114 hO113).mono ((List.sublist_append_left _ _).cons_cons _)) (U1 _ _) (a0b _ _) (a2w _ _) (W7 _ _) (Q5 _ _)⟩,by rw[List.cons_append,List.append_assoc]⟩;replace he111:=he111.trans (if_neg (G6 c108));subst r111;rw[if_neg (G6 c108)] at hq;refine kA2 ?_;refine xG (PO.makeFunc (E1 Et) Evs.nil) ?_;refine pD (lnR b a111 r45.tail.length u111) ?_
 refine A0 Ef (E4 Et Ek Ek Et) (a0r 87 K6 [59] 8 b a111 u111 r45.tail _ _ hk111 (hs.trans Sb) (by decide) (fun a c ts h hk hs=>a0e hg b a c ts h _ hk hs)) Lb (fun v hv hx=>?_) fun v90 h90 hr90=>?_
 ·obtain⟨e,hx1,rfl,rfl⟩:=hx;rw[hx1] at hq;exact prP Tryz.f51 hq Sb
 obtain⟨x90,r90,a90,u90,bl90,hM90,⟨s90,rfl,rfl,hO90⟩,hk90,rfl⟩:=hr90;refine WL.perm ((Mv.perm).cons _) ?_;rw[hM90,I0] at hq;refine kQ4 [0,2,6,7] ?_;refine kA2 ?_;refine WL.perm ((Del.perm (r:=psR z i) De).trans ((Del.perm (r:=lnR b a90 r90.length u90) De).cons _)) ?_;refine A0 Ef (E2 Et Et) (K5 hz i b a90 u90 r90 _ (by omega)) Lb (fun v hv hx=>?_) fun v119 h119 hr119=>?_
 ·obtain⟨hx1,rfl,rfl⟩:=hx;rw[L8 hx1] at hq;exact prP Tryz.f51 hq Sb
 obtain⟨hz119,rfl⟩:=hr119;rw[L9 hz119] at hq;refine kQ0 [6,7] ?_;refine kQ2 [6] ?_;refine xT (psR z (i+1)::(bl90++(bl45++h))) (h1:=cA S1) ?_;exact⟨_,_,bl90++bl45,hq,⟨by omega,by omega⟩,⟨.mk 4 [] e0 s90 B7 D1 none 0 [] none 0 [] B7 D2,rfl,R4 _,a4a (by decide) (Nat.zero_le _) (hE0.mono (List.sublist_append_right _ _)) (hO90.mono (List.sublist_append_left _ _)) (F5 _ _) (U1 _ _) (a0b _ _) (a2w _ _) (W7 _ _) (Q5 _ _)⟩,by rw[List.append_assoc]⟩
end
section
open Go.Eng Go.Pc Go.Sx Go
open Go.Xp hiding B D5
open Go.Ty (Ty Vr Tok eqT tyV I4 B2 B4 R1 zeroK L7 D3 encV D7 prL prV PrOk VOk mayPr)
open Go.Lx (encB C4 lexO)
open Go.Ly (Rw O6 G8)
abbrev OPr (m:View) (x:Bool × List Vr) (v:Value) (bl:List Res):Prop:=∃ cs a c l,x=(cs,l.map V1)/\v=prV cs a l.length c/\PrOk m bl a l.length c l/\∀ y ∈ l,y.items.length=y.n
abbrev pxR (b:Nat) (a:Option Addr) (k c:Nat):Res:=.pt b (.cells (prL true a k c).toArray 41 (0,0))
abbrev vxR (b:Nat) (v:Vr):Res:=.pt b (.cells (encV v).toArray 201 (0,0))
theorem b6B {m:View} (hg:Glob m) {z:Pz} (hz:Pok m z) (d:Int) (i b:Nat) (a:Option Addr) (c:Nat) (ts:List Tok) (h hT:List Res) (hk:Tk2 m hT a c ts) (hs:hT.Sublist h) (hi:i < z.R.length) (hd:0<=d/\d<=32) :
 QrX m z 76 [ptV z.bp,.int .i64 d,ptV b] i b a c ts h (a5j z.R d ts i) (OPr m):=by
 have hR:=hz.ok.1;have hq:a5j z.R d ts i=if isM 2 [73,83] ts then H6 (P0 a5b [59] 8 ts.tail) i fun l r=>U8 5 [58] r i fun r=>F1 r i fun i=>.ok ((false,[vrM [] l]),i)
  else F1 ts i fun i=>a2g z.R (d+1) 2 [67,65,83,69] i fun i=>P8 (a0w z.R d (z.R.length - i) [] i) fun l i=>a2g z.R d 5 [58] i fun i=>.ok ((true,l),i):=rfl
 refine CX.body Tryz.call76 Tryz.func76 rfl Tryz.ntmps76 Lb rfl ?_;refine j0 ?_;refine xW fun b6=>?_
 refine kQ0 [0,1,2,6] ?_;refine kA1 ?_;refine xf (E1 Ek) (J5 _ _ _) ?_;refine pD (lnR b a ts.length c) ?_;refine xg (E2 Et Et) (K2 b a c ts _ _ _ hk (by first | exact F4 Me | exact hs.trans Sb)) ?_;rintro _ _ ⟨a13,u13,r13,rfl,he13,hk13,rfl⟩;refine kQ0 [0,1,2,6,13] ?_;refine wc (fun c13=>?_) fun c13=>?_
 replace he13:=he13.trans (if_pos c13);subst r13;rw[if_pos c13] at hq;refine kA2 ?_;refine xG (PO.makeFunc (E1 Et) Evs.nil) ?_;refine pD (lnR b a13 ts.tail.length u13) ?_;refine A0 Ef (E4 Et Ek Ek Et) (b0N 136 a5b [59] 8 b a13 u13 ts.tail _ _ hk13 (by first | exact F4 Me | exact hs.trans Sb) (by decide) (fun a c ts h hk hs=>b48 hg b a c ts h _ hk hs)) Lb (fun v hv hx=>?_) fun v17 h17 hr17=>?_
 ·obtain⟨e,hx1,rfl,rfl⟩:=hx;rw[hx1] at hq;exact prP Tryz.f76 hq Sb
 obtain⟨x17,r17,a17,u17,bl17,hM17,⟨p17,q17,rfl,hS17,hO17⟩,hk17,rfl⟩:=hr17;refine WL.perm ((Mv.perm).cons _) ?_;rw[hM17,I0] at hq;refine kA1 ?_;refine xY a1Q Eb fun b19=>?_
 refine WL.perm (Mv.perm (bl:=[_])) ?_;refine kA1 ?_;refine xW fun b7=>?_
 refine kQ1 [0,2,6,7] ?_;refine kA1 ?_;refine xf (E1 Ek) (G5 _ _ _) ?_;refine xY A6 Eb fun b23=>?_
 refine pD (lnR b a17 r17.length u17) ?_;refine A0 Ef (E2 Et Et) (M9 b a17 u17 r17 _ _ _ _ _ hk17 (by first | exact F4 Me | exact hs.trans Sb) (Rd.ofPt rfl (by decide) Me)) Lb (fun v hv hx=>?_) fun v24 h24 hr24=>?_
 ·obtain⟨hx1,rfl,rfl⟩:=hx;rw[a1J hx1] at hq;exact prP Tryz.f76 hq Sb
 obtain⟨hi24,a24,u24,hk24,rfl⟩:=hr24;rw[a1u hi24] at hq;refine kQ0 [0,2,6,7] ?_;refine kA2 ?_;refine WL.perm ((Del.perm (r:=psR z i) De).trans ((Del.perm (r:=lnR b a24 r17.tail.length u24) De).cons _)) ?_;refine A0 Ef (E2 Et Et) (K5 hz i b a24 u24 r17.tail _ (by omega)) Lb (fun v hv hx=>?_) fun v27 h27 hr27=>?_
 ·obtain⟨hx1,rfl,rfl⟩:=hx;rw[L8 hx1] at hq;exact prP Tryz.f76 hq Sb
 obtain⟨hz27,rfl⟩:=hr27;rw[L9 hz27] at hq;refine kQ0 [6,7] ?_;refine kQ2 [6] ?_;refine xT (psR z (i+1)::(vxR b19 ⟨[],p17,x17.length,q17,x17⟩::(bl17++h))) (h1:=cA b6Z) ?_;exact⟨_,_,vxR b19 ⟨[],p17,x17.length,q17,x17⟩::bl17,hq,⟨by omega,by omega⟩,⟨false,some ⟨b19,0,none⟩,1,[⟨[],p17,x17.length,q17,x17⟩],rfl,rfl,⟨Rd.ofPt rfl (by show 1<=_;decide) (List.Mem.head _),Y6 ⟨hS17.mono Vl (List.sublist_cons_self _ _)⟩,Y6 (Nat.zero_le _)⟩,Y6 rfl⟩,rfl⟩;replace he13:=he13.trans (if_neg (G6 c13));subst r13;rw[if_neg (G6 c13)] at hq;refine kQ0 [0,1,2,6] ?_;refine kA2 ?_;refine WL.perm ((Del.perm (r:=psR z i) De).trans ((Del.perm (r:=lnR b a13 ts.length u13) De).cons _)) ?_;refine A0 Ef (E2 Et Et) (K5 hz i b a13 u13 ts _ (by omega)) Lb (fun v hv hx=>?_) fun v31 h31 hr31=>?_
 ·obtain⟨hx1,rfl,rfl⟩:=hx;rw[L8 hx1] at hq;exact prP Tryz.f76 hq Sb
 obtain⟨hz31,rfl⟩:=hr31;rw[L9 hz31] at hq;refine kQ0 [0,1,6] ?_;refine kA3 ?_;refine xf (E1 Ek) (J5 _ _ _) ?_;refine xY A6 Eb fun b36=>?_
 refine pD (psR z (i+1)) ?_;refine A0 Ef (E3 Et Et Et) (b05 hg hz (i+1) _ _ _ _ _ (by omega) (Rd.ofPt rfl (by decide) Me)) Lb (fun v hv hx=>?_) fun v37 h37 hr37=>?_
 ·obtain⟨e,hx1,rfl,rfl⟩:=hx;rw[hx1] at hq;exact prP Tryz.f76 hq Sb
 obtain⟨ho37,hz37,rfl⟩:=hr37;rw[hz37] at hq;refine kQ0 [0,1,6] ?_;refine kA1 ?_;refine xW fun b8=>?_
 refine kA1 ?_;refine WL.addNil 201 2 ?_;refine pD (psR z (i+1+1)) ?_;refine kQ0 [0,1,6,8] ?_
 refine B0 [0,1,6,8] rfl (fun μ F' h'=>∃ a9:Option Addr,∃ c9:Nat,∃ l:List Vr,∃ bl:List Res,∃ k:Nat,∃ j:Nat,((l.length+i+2<=j/\j<=z.R.length/\z.R.length<=j+k)/\(∀ y ∈ l,VOk m bl y/\y.tag.length<=Big/\y.items.length=y.n)/\a5j z.R d ts i=P8 (a0w z.R d k (l.map V1) j) fun l i=>a2g z.R d 5 [58] i fun i=>.ok ((true,l),i))/\k=μ/\F'=[]/\psR z j::.row (.slice a9 l.length c9) 201 2 l.length (fl encV l)::pxR b8 a9 l.length c9::.pt b6 (.cells (prL false none 0 0).toArray 41 (0,0))::(bl++h)=h') ((z.R.length - (i+1+1))) [] (h0:=psR z (i+1+1)::.row (.slice none ([]).length 0) 201 2 ([]).length (fl encV ([]))::pxR b8 none ([]).length 0::.pt b6 (.cells (prL false none 0 0).toArray 41 (0,0))::(([])++h)) ?_ Sb ⟨none,0,[],[],z.R.length - (i+1+1),i+1+1,⟨⟨by simp,by omega,by omega⟩,fun _ hx=>(List.not_mem_nil hx).elim,hq⟩,rfl,rfl,rfl⟩ ?_;exact Su;rintro _ _ _ ⟨a9,c9,l,bl,k,j,⟨⟨hl,hj,hk⟩,hV,hq⟩,rfl,rfl,rfl⟩
 refine B1 rfl ?_;have hlm:(l.map V1).length=l.length:=List.length_map _;refine kA7 ?_;refine F6 (GU.f rfl rfl) (fun hc=>M2 (Eg hc) Ek (by first | omega | (simp at hc;omega))) Lb ?_;refine A7 (GU.f rfl rfl) (fun hc=>⟨Ef,(E2 (Eg hc) (Eg hc)),a4S hz j (d+2) _ Me⟩) Lb ?_;refine kQ1 [0,1,6,8,48] ?_;refine wc (fun c48=>?_) fun c48=>?_
 have hc:(l.map V1).length=0\/O3 z.R (d+2) j=true:=by
  simp only[Bool.or_eq_true,beq_iff_eq] at c48;rw[hlm];exact c48.imp (fun q=>by omega) id
 rw[b5V hk hc] at hq;refine kQ0 [0,1,6,8] ?_;refine kA3 ?_;refine pD (psR z j) ?_;refine A0 Ef (E2 Et Et) (a2p hg hz j _ _ (by omega)) Lb (fun v hv hx=>?_) fun v52 h52 hr52=>?_
 ·obtain⟨e,j,hx1,rfl,rfl⟩:=hx;(first | rw[hx1] at hq | rw[I5 hx1] at hq);exact prP Tryz.f76 hq Sb
 obtain⟨r52,b52,a52,u52,hM52,rfl,hk52,rfl⟩:=hr52;have ho52:=a0O hz hM52;rw[a3k hM52] at hq;refine kQ1 [0,1,6,8,9] ?_;have hv:a0Y r52=O2 (U6 r52) fun n r=>if isM 5 [59] r then O2 (P0 a5b [59] 8 r.tail) fun l r=>.ok (vrM n l,r) else .ok (vrM n [],r):=rfl
 refine kA1 ?_;refine pD (lnR b52 a52 r52.length u52) ?_;refine A0 Ef (E1 Et) (a0F b52 a52 u52 r52 _ _ hk52 (by first | exact F4 Me | exact hs.trans Sb)) Lb (fun v hv hx=>?_) fun v54 h54 hr54=>?_
 ·obtain⟨e,hx1,rfl,rfl⟩:=hx
  rw[hx1] at hv;rw[show a0Y r52=.error e from hv] at hq;exact prP Tryz.f76 hq Sb
 obtain⟨x54,r54,a54,u54,hM54,⟨rfl,hw54⟩,hk54,rfl⟩:=hr54;rw[hM54,H3] at hv;refine kA1 ?_;refine xW fun b10=>?_
 refine kQ1 [0,1,6,8,9,10] ?_;refine kA1 ?_;refine xf (E1 Ek) (G5 _ _ _) ?_;refine pD (lnR b52 a54 r54.length u54) ?_;refine xg (E2 Et Et) (K2 b52 a54 u54 r54 _ _ _ hk54 (by first | exact F4 Me | exact hs.trans Sb)) ?_;rintro _ _ ⟨a58,u58,r58,rfl,he58,hk58,rfl⟩;refine kP0 [0,1,6,8,9,10,58] ?_;refine H9 KKh [0,1,6,8,9,10] rfl (fun F' h'=>∃ w:Vr,∃ bl2:List Res,∃ x:Option Addr,∃ y:Nat,∃ r:List Tok,((VOk m bl2 w/\w.tag.length<=Big/\w.items.length=w.n)/\Tk2 m [tkW a52 u52 r52] x y r/\a0Y r52=.ok (V1 w,r))/\F'=[]/\lnR b52 x r.length y::vxR b10 w::tkW a52 u52 r52::psR z j::.row (.slice a9 l.length c9) 201 2 l.length (fl encV l)::pxR b8 a9 l.length c9::.pt b6 (.cells (prL false none 0 0).toArray 41 (0,0))::(bl2++(bl++h))=h') ?_ ?_;refine jE ?_;refine wc (fun c58=>?_) fun c58=>?_
 replace he58:=he58.trans (if_pos c58);subst r58;rw[if_pos c58] at hv;refine kA2 ?_;refine xG (PO.makeFunc (E1 Et) Evs.nil) ?_;refine pD (lnR b52 a58 r54.tail.length u58) ?_;refine A0 Ef (E4 Et Ek Ek Et) (b0N 136 a5b [59] 8 b52 a58 u58 r54.tail _ _ hk58 (by first | exact F4 Me | exact hs.trans Sb) (by decide) (fun a c ts h hk hs=>b48 hg b52 a c ts h _ hk hs)) Lb (fun v hv hx=>?_) fun v62 h62 hr62=>?_
 ·obtain⟨e,hx1,rfl,rfl⟩:=hx
  rw[hx1] at hv;rw[show a0Y r52=.error e from hv] at hq;exact prP Tryz.f76 hq Sb
 obtain⟨x62,r62,a62,u62,bl62,hM62,⟨p62,q62,rfl,hS62,hO62⟩,hk62,rfl⟩:=hr62;refine WL.perm ((Mv.perm).cons _) ?_;rw[hM62,H3] at hv;refine kA2 ?_;refine WL.nil (C8 [] (h'':=lnR b52 a62 r62.length u62::vxR b10 (⟨x54,p62,x62.length,q62,x62⟩)::tkW a52 u52 r52::psR z j::.row (.slice a9 l.length c9) 201 2 l.length (fl encV l)::pxR b8 a9 l.length c9::.pt b6 (.cells (prL false none 0 0).toArray 41 (0,0))::(bl62++(bl++h))) ?_ Su Sb ⟨⟨x54,p62,x62.length,q62,x62⟩,bl62,a62,u62,r62,⟨⟨⟨hS62⟩,hw54,rfl⟩,hk62,hv⟩,rfl,rfl⟩);exact Su;replace he58:=he58.trans (if_neg (G6 c58));subst r58;rw[if_neg (G6 c58)] at hv
 refine WC.skip (C8 [] (h'':=lnR b52 a58 r54.length u58::vxR b10 (⟨x54,none,0,0,[]⟩)::tkW a52 u52 r52::psR z j::.row (.slice a9 l.length c9) 201 2 l.length (fl encV l)::pxR b8 a9 l.length c9::.pt b6 (.cells (prL false none 0 0).toArray 41 (0,0))::(([])++(bl++h))) ?_ Su Sb ⟨⟨x54,none,0,0,[]⟩,[],a58,u58,r54,⟨⟨⟨Rd.nilF L7 1 m _⟩,hw54,rfl⟩,hk58,hv⟩,rfl,rfl⟩);exact Su;rintro _ _ ⟨w,bl2,x,y,r,⟨hw,hk1,hv⟩,rfl,rfl⟩;refine B1 rfl ?_;rw[hv,I0] at hq;refine kA3 ?_;refine xY a1Q Eb fun b67=>?_
 have hln:(l++[w]).length=l.length+1:=List.length_append;refine xD a1Q (Ev.tmp rfl) (Ev.tmp rfl) (show l.length+1=(l++[w]).length by simp) (E9 (enc:=encV) _ (w)) fun a68 c68=>?_
 refine kA2 ?_;rw[<- List.append_assoc bl2 bl h];have hV2:∀ y ∈ l++[w],VOk m (bl2++bl) y/\y.tag.length<=Big/\y.items.length=y.n:=V4 (fun y hy=>⟨(hV y hy).1.mono Vl (List.sublist_append_right _ _),(hV y hy).2⟩) ⟨hw.1.mono Vl (List.sublist_append_left _ _),hw.2⟩;refine kR a68 fun p68 q68 r68=>?_
 refine kQ0 [0,1,6,8,9] ?_;refine kA1 ?_;refine xf (E1 Et) (Ty9.mayProto_ct true a68 _ c68 (l++[w]) _ _ hg ⟨Rd.inRow Me r68 p68 q68,fun y hy=>(hV2 y hy).1.mono Vl ((List.sublist_append_left _ _).trans Sb),fun y hy=>Nat.le_trans (hV2 y hy).2.1 (by decide)⟩) ?_;refine kQ1 [0,1,6,8,9,72] ?_;refine wc (fun c72=>?_) fun c72=>?_
 have d72:mayPr true (l.map V1++[V1 w])=false:=by
  have:=a6S true (l++[w]);rw[List.map_append,List.map_singleton] at this;rw[this];simpa using c72
 rw[if_neg (G6 d72)] at hq;refine j0 ?_;refine A0 Ef Evs.nil (H8 _ _) Lb (fun v hv hx=>?_) fun v73 h73 hr73=>?_
 ·obtain⟨rfl,rfl⟩:=hx;exact prP Tryz.f76 hq Sb
 exact hr73.elim;have d72:mayPr true (l.map V1++[V1 w])=true:=by
  have:=a6S true (l++[w]);rw[List.map_append,List.map_singleton] at this;rw[this];simpa using c72
 rw[if_pos d72] at hq;refine kQ0 [0,1,6,8,9] ?_;refine kA2 ?_;refine WL.perm ((Del.perm (r:=psR z j) De).trans ((Del.perm (r:=lnR b52 x r.length y) De).cons _)) ?_;refine A0 Ef (E2 Et Et) (K5 hz j b52 x y r _ (by omega)) Lb (fun v hv hx=>?_) fun v76 h76 hr76=>?_
 ·obtain⟨hx1,rfl,rfl⟩:=hx;rw[L8 hx1] at hq;exact prP Tryz.f76 hq Sb
 obtain⟨hz76,rfl⟩:=hr76;rw[L9 hz76] at hq;refine WL.nil (A4 ((k - 1)) [] (h'':=psR z ((j+1))::.row (.slice a68 (l++[w]).length c68) 201 2 (l++[w]).length (fl encV (l++[w]))::pxR b8 a68 (l++[w]).length c68::.pt b6 (.cells (prL false none 0 0).toArray 41 (0,0))::((bl2++bl)++h)) (by omega) ?_ Su Sb ⟨a68,c68,l++[w],bl2++bl,k - 1,(j+1),⟨⟨by omega,by omega,by omega⟩,hV2,hq.trans (by rw[List.map_append,List.map_singleton])⟩,rfl,rfl,rfl⟩);exact Su;have hc:¬ ((l.map V1).length=0\/O3 z.R (d+2) j=true):=fun q=>by
  rw[hlm] at q;have:(((l.length:Int)==0)||O3 z.R (d+2) j)=true:=by
   simp only[Bool.or_eq_true,beq_iff_eq];exact q.imp (fun q=>by omega) id
  rw[this] at c48;cases c48
 rw[b2c hc,O1] at hq;refine O8 (a:=a9) Me fun p9 q9 r9=>?_
 refine kQ0 [0,1,6,8] ?_;refine kA2 ?_;refine xf (E1 Ek) (G5 _ _ _) ?_;refine xY A6 Eb fun b80=>?_
 refine pD (psR z j) ?_;refine A0 Ef (E3 Et Et Et) (b05 hg hz j _ _ _ _ _ (by omega) (Rd.ofPt rfl (by decide) Me)) Lb (fun v hv hx=>?_) fun v81 h81 hr81=>?_
 ·obtain⟨e,hx1,rfl,rfl⟩:=hx;rw[hx1] at hq;exact prP Tryz.f76 hq Sb
 obtain⟨ho81,hz81,rfl⟩:=hr81;rw[hz81] at hq;refine kQ0 [6,8] ?_;refine kQ2 [6] ?_;refine xT (psR z (j+1)::(.row (.slice a9 l.length c9) 201 2 l.length (fl encV l)::(bl++h))) (h1:=cA b6Z) ?_;exact⟨_,_,.row (.slice a9 l.length c9) 201 2 l.length (fl encV l)::bl,hq,⟨by omega,by omega⟩,⟨true,a9,c9,l,rfl,rfl,⟨Rd.inRow (List.Mem.head _) r9 p9 q9,fun y hy=>(hV y hy).1.mono Vl (List.sublist_cons_self _ _),fun y hy=>Nat.le_trans (hV y hy).2.1 (by decide)⟩,fun y hy=>(hV y hy).2.2⟩,rfl⟩
abbrev spR (b:Nat) (s:Sp):Res:=.pt b (.cells (spE s).toArray 44 (0,0))
abbrev nmR (b:Nat) (s:B):Res:=.pt b (.cells [str s].toArray 9 (0,0))
abbrev s0 (k:Int) (ty:Ty) (ns:Sli B) (e:Ex):Sp:=.mk k ty ns e false B7 B7 none 0 []
theorem b6H (m:View) (h:List Res):Rd m h none 0 0 6 (fl foE []):=Rd.nilF foE 6 m h
abbrev SpX (m:View) (z:Pz) (i b:Nat) (ts:List Tok) (hT h:List Res) (M:PE (Option Sp)) (v:Value) (h':List Res):Prop:=
 ∃ so j X s,M=.ok (so,j)/\v=.tuple #[spV s,.bool (Option.isSome so)]/\h'=psR z j::(X++h)/\(so=none->j=i/\∃ a c,X=[lnR b a ts.length c]/\Tk2 m hT a c ts)/\∀ s',so=some s'->(i < j/\j<=z.R.length)/\stS s=s'/\Ss m X s
theorem a7D {m:View} {z:Pz} {i b:Nat} {ts:List Tok} {hT h:List Res} {M:PE (Option Sp)} {s:Sp} {s':Sp} {j:Nat} {X:List Res} (hM:M=.ok (some s',j)) (hj:i < j/\j<=z.R.length) (hs:stS s=s') (hS:Ss m X s) {H:List Res} (he:H=psR z j::(X++h)) :
 SpX m z i b ts hT h M (.tuple #[spV s,.bool true]) H:=⟨some s',j,X,s,hM,rfl,he,nofun,fun _ e=>by cases e;exact⟨hj,hs,hS⟩⟩
theorem sS1 {m:View} {h:List Res} {k:Int} {ty:Ty} {ns:Sli B} {e:Ex} (hk:0<=k/\k<=255) (ht:TyW ty) (hn:Rd m h ns.a ns.l.length ns.c 1 (fl encB ns.l)) (hw:∀ x ∈ ns.l,x.length<=Big) (he:EOk m h e):Ss m h (s0 k ty ns e):=
 ⟨⟨hk,ht,hn,hw,he,a74 m h,fun _ hx=>(List.not_mem_nil hx).elim,b6H m h,fun _ hx=>(List.not_mem_nil hx).elim,Rd.nilF prE 42 m h⟩,fun _ hx=>(List.not_mem_nil hx).elim⟩
theorem c3f:TyW Go.Ty.zeroT:=⟨by decide,by decide,by decide,Nat.zero_le _⟩
set_option maxHeartbeats 2000000 in
theorem c0j {m:View} (hg:Glob m) {z:Pz} (hz:Pok m z) {n:Nat} (hrec:REC m z n) (d:Int) (i b:Nat) (a:Option Addr) (c:Nat) (ts:List Tok) (h hT:List Res) (hk:Tk2 m hT a c ts) (hs:hT.Sublist h) (hi:i < z.R.length) (hf:z.R.length<=i+n+1) (hd:0<=d/\d<=32) :
 CX Tryz.prog 49 [ptV z.bp,.int .i64 d,ptV b] (psR z i::lnR b a ts.length c::h) m (fun v _ h'=>SpX m z i b ts hT h (a6a z.R (B9 z.R n) d ts i) v h') (fun v h'=>PrE z (a6a z.R (B9 z.R n) d ts i) h v h'):=by
 have hR:=hz.ok.1;have hq:a6a z.R (B9 z.R n) d ts i=if isM 2 [80,82,79,84,79,67,79,76] ts then H6 (U6 ts.tail) i fun nm r=>P8 (a5j z.R d r i) fun p i=>.ok (some (spM 4 Go.Ty.zeroT [nm] A2 p.1 p.2 [] []),i)
 else if isM 2 [80,82,79,67] ts then H6 (U6 ts.tail) i fun nm r=>H6 (brM a3J r) i fun fs r=>F1 r i fun i=>P8 (B9 z.R n (d+1) false i) fun x i=>a2g z.R d 5 [58] i fun i=>.ok (some (spM 5 Go.Ty.zeroT [nm] A2 false [] fs [x]),i)
 else if isM 2 [86,65,76] ts then H6 (a6G ts.tail) i fun t r=>H6 (U6 r) i fun nm r=>U8 2 [73,83] r i fun r=>H6 (L6 r) i fun e r=>b0M (spM 2 t [nm] e false [] [] []) r i
 else if isM 5 [91] ts||isM 2 [73,78,84] ts||isM 2 [66,89,84,69] ts||isM 2 [66,79,79,76] ts||isM 2 [67,72,65,78] ts||isM 2 [84,73,77,69,82] ts then H6 (a6G ts) i fun t r=>H6 (P0 U6 [44] 8 r) i fun ns r=>
  if isM 2 [73,83] r then H6 (K6 r.tail) i fun e r=>b0M (spM 3 t ns e false [] [] []) r i else b0M (spM 1 t ns A2 false [] [] []) r i
 else .ok (none,i):=rfl
 refine CX.body Tryz.call49 Tryz.func49 rfl Tryz.ntmps49 Lb rfl ?_;refine j0 ?_;refine xW fun b6=>?_
 refine kP1 [0,1,2,6] ?_;refine H9 KKh [0,2,6] rfl (fun F' h'=>∃ s:Sp,∃ bl:List Res,∃ x:Option Addr,∃ y:Nat,∃ r:List Tok,(Ss m bl s/\Tk2 m hT x y r/\a6a z.R (B9 z.R n) d ts i=b0M (stS s) r i)/\F'=[]/\lnR b x r.length y::spR b6 s::psR z i::(bl++h)=h') ?_ ?_;refine kA1 ?_;refine xf (E1 Ek) (J5 _ _ _) ?_;refine pD (lnR b a ts.length c) ?_;refine xg (E2 Et Et) (K2 b a c ts _ _ _ hk (by first | exact F4 Me | exact hs.trans Sb)) ?_;rintro _ _ ⟨a12,u12,r12,rfl,he12,hk12,rfl⟩;refine kQ1 [0,1,2,6,9] ?_;refine wc (fun c9=>?_) fun c9=>?_
 replace he12:=he12.trans (if_pos c9);subst r12;rw[if_pos c9] at hq;refine kA1 ?_;refine pD (lnR b a12 ts.tail.length u12) ?_;refine A0 Ef (E1 Et) (a0F b a12 u12 ts.tail _ _ hk12 (by first | exact F4 Me | exact hs.trans Sb)) Lb (fun v hv hx=>?_) fun v14 h14 hr14=>?_
 ·obtain⟨e,hx1,rfl,rfl⟩:=hx;rw[hx1] at hq;exact prP Tryz.f49 hq Sb
 obtain⟨x14,r14,a14,u14,hM14,⟨rfl,hw14⟩,hk14,rfl⟩:=hr14;rw[hM14,I0] at hq;refine xY M1 Eb fun b15=>?_
 refine WL.perm (Mv.perm (bl:=[_])) ?_;refine kQ2 [0,1,2,6] ?_;refine kA3 ?_;refine WL.perm ((Del.perm (r:=psR z i) De).trans ((Del.perm (r:=lnR b a14 r14.length u14) De).cons _)) ?_;refine A0 Ef (E3 Et Et Et) (b6B hg hz d i b a14 u14 r14 _ _ hk14 (by first | exact F4 Me | exact hs.trans Sb) hi hd) Lb (fun v hv hx=>?_) fun v20 h20 hr20=>?_
 ·obtain⟨e,j,hx1,rfl,rfl⟩:=hx;(first | rw[hx1] at hq | rw[I5 hx1] at hq);exact prP Tryz.f49 hq Sb
 obtain⟨x20,j20,bl20,hM20,hj20,⟨e20,q20,w20,l20,rfl,rfl,hP20,hL20⟩,rfl⟩:=hr20;refine WL.perm ((Mv.perm).cons _) ?_;rw[hM20,O1] at hq;refine kQ2 [6] ?_;refine kQ3 [6,7] ?_;refine WC.ret (toX (.inl rfl) (b5O (h':=psR z j20::((nmR b15 x14::bl20)++h)) (.inl rfl) rfl (I1 a8c rfl rfl rfl Me rfl) (RV.tmp rfl) Vl Sb ?_));exact a7D hq hj20 (R6 _) (s:=.mk 4 Go.Ty.zeroT ⟨some ⟨b15,0,none⟩,1,[x14]⟩ A2 e20 ⟨q20,w20,l20⟩ B7 none 0 []) ⟨⟨(show(0:Int)<=4/\(4:Int)<=255 by decide),c3f,Rd.ofPt rfl (by show 1<=_;decide) (List.Mem.head _),Y6 hw14,E6 _ _,hP20.mono Vl (List.sublist_cons_self _ _),hL20,b6H _ _,fun _ hx=>(List.not_mem_nil hx).elim,Rd.nilF prE 42 m _⟩,fun _ hx=>(List.not_mem_nil hx).elim⟩ rfl;replace he12:=he12.trans (if_neg (G6 c9));subst r12;rw[if_neg (G6 c9)] at hq;refine kA1 ?_;refine xf (E1 Ek) (J5 _ _ _) ?_;refine pD (lnR b a12 ts.length u12) ?_
 refine xg (E2 Et Et) (K2 b a12 u12 ts _ _ _ hk12 (by first | exact F4 Me | exact hs.trans Sb)) ?_;rintro _ _ ⟨a26,u26,r26,rfl,he26,hk26,rfl⟩;refine kQ1 [0,1,2,6,23] ?_;refine wc (fun c23=>?_) fun c23=>?_
 replace he26:=he26.trans (if_pos c23);subst r26;rw[if_pos c23] at hq;refine kA1 ?_;refine pD (lnR b a26 ts.tail.length u26) ?_;refine A0 Ef (E1 Et) (a0F b a26 u26 ts.tail _ _ hk26 (by first | exact F4 Me | exact hs.trans Sb)) Lb (fun v hv hx=>?_) fun v28 h28 hr28=>?_
 ·obtain⟨e,hx1,rfl,rfl⟩:=hx;rw[hx1] at hq;exact prP Tryz.f49 hq Sb
 obtain⟨x28,r28,a28,u28,hM28,⟨rfl,hw28⟩,hk28,rfl⟩:=hr28;rw[hM28,I0] at hq;refine xY M1 Eb fun b29=>?_
 refine WL.perm (Mv.perm (bl:=[_])) ?_;refine kA2 ?_;refine xG (PO.makeFunc (E1 Et) Evs.nil) ?_;refine pD (lnR b a28 r28.length u28) ?_;refine A0 Ef (E2 Et Et) (c0f 78 a3J b a28 u28 r28 _ _ hk28 (by first | exact F4 Me | exact hs.trans Sb) (fun a c ts h hk hs=>b5L hg b a c ts h _ hk hs)) Lb (fun v hv hx=>?_) fun v33 h33 hr33=>?_
 ·obtain⟨e,hx1,rfl,rfl⟩:=hx;rw[hx1] at hq;exact prP Tryz.f49 hq Sb
 obtain⟨x33,r33,a33,u33,bl33,hM33,⟨p33,q33,rfl,hS33,hF33⟩,hk33,rfl⟩:=hr33;refine WL.perm ((Mv.perm).cons _) ?_;rw[hM33,I0] at hq;refine kQ2 [0,1,2,6] ?_;refine kA2 ?_;refine WL.perm ((Del.perm (r:=psR z i) De).trans ((Del.perm (r:=lnR b a33 r33.length u33) De).cons _)) ?_;refine A0 Ef (E2 Et Et) (K5 hz i b a33 u33 r33 _ (by omega)) Lb (fun v hv hx=>?_) fun v37 h37 hr37=>?_
 ·obtain⟨hx1,rfl,rfl⟩:=hx;rw[L8 hx1] at hq;exact prP Tryz.f49 hq Sb
 obtain⟨hz37,rfl⟩:=hr37;rw[L9 hz37] at hq;refine kQ0 [0,1,6] ?_;refine kA3 ?_;refine pD (psR z (i+1)) ?_;refine A0 Ef (E3 Et Et Ek) (hrec (i+1) _ _ _ (by omega) (by omega) (by omega)) Lb (fun v hv hx=>?_) fun v41 h41 hr41=>?_
 ·obtain⟨e,j,hx1,rfl,rfl⟩:=hx;(first | rw[hx1] at hq | rw[I5 hx1] at hq);exact prP Tryz.f49 hq Sb
 obtain⟨x41,j41,bl41,hM41,hj41,⟨p41,rfl,rfl,hO41⟩,rfl⟩:=hr41;refine WL.perm ((Mv.perm).cons _) ?_;rw[hM41,O1] at hq;refine xY Z8 Eb fun b42=>?_
 refine WL.perm (Mv.perm (bl:=[_])) ?_;refine kQ2 [0,1,6] ?_;refine kA2 ?_;refine xf (E1 Ek) (G5 _ _ _) ?_;refine xY A6 Eb fun b47=>?_
 refine pD (psR z j41) ?_;refine A0 Ef (E3 Et Et Et) (b05 hg hz j41 _ _ _ _ _ (by omega) (Rd.ofPt rfl (by decide) Me)) Lb (fun v hv hx=>?_) fun v48 h48 hr48=>?_
 ·obtain⟨e,hx1,rfl,rfl⟩:=hx;rw[hx1] at hq;exact prP Tryz.f49 hq Sb
 obtain⟨ho48,hz48,rfl⟩:=hr48;rw[hz48] at hq;refine kQ0 [6] ?_;refine kQ3 [6,7] ?_;refine WC.ret (toX (.inl rfl) (b5O (h':=psR z (j41+1)::nmR b29 x28::prR b42 p41::(bl41++(bl33++h))) (.inl rfl) rfl (I1 a8c rfl rfl rfl Me rfl) (RV.tmp rfl) Vl Sb ?_));exact a7D hq (by omega) (R6 _) (s:=.mk 5 Go.Ty.zeroT ⟨some ⟨b29,0,none⟩,1,[x28]⟩ A2 false B7 ⟨p33,q33,x33⟩ (some ⟨b42,0,none⟩) 1 [p41]) ⟨⟨(show(0:Int)<=5/\(5:Int)<=255 by decide),c3f,Rd.ofPt rfl (by show 1<=_;decide) (List.Mem.head _),Y6 hw28,E6 _ _,a74 _ _,fun _ hx=>(List.not_mem_nil hx).elim,hS33.mono Vl (((List.sublist_append_right _ _).cons _).cons _),hF33,Rd.ofPt rfl (by show 1<=_;decide) (List.Mem.tail _ (List.Mem.head _))⟩,Y6 (hO41.mono (((List.sublist_append_left _ _).cons _).cons _))⟩ (X:=nmR b29 x28::prR b42 p41::(bl41++bl33)) (by simp only[List.cons_append,List.append_assoc]);replace he26:=he26.trans (if_neg (G6 c23));subst r26
 rw[if_neg (G6 c23)] at hq;refine kA1 ?_;refine xf (E1 Ek) (J5 _ _ _) ?_;refine pD (lnR b a26 ts.length u26) ?_;refine xg (E2 Et Et) (K2 b a26 u26 ts _ _ _ hk26 (by first | exact F4 Me | exact hs.trans Sb)) ?_;rintro _ _ ⟨a53,u53,r53,rfl,he53,hk53,rfl⟩;refine kQ1 [0,2,6,50] ?_;refine wc (fun c50=>?_) fun c50=>?_
 replace he53:=he53.trans (if_pos c50);subst r53;rw[if_pos c50] at hq;refine kA1 ?_;refine pD (lnR b a53 ts.tail.length u53) ?_;refine A0 Ef (E1 Et) (a9I hg b a53 u53 ts.tail _ _ hk53 (by first | exact F4 Me | exact hs.trans Sb)) Lb (fun v hv hx=>?_) fun v55 h55 hr55=>?_
 ·obtain⟨e,hx1,rfl,rfl⟩:=hx;rw[hx1] at hq;exact prP Tryz.f49 hq Sb
 obtain⟨x55,r55,a55,u55,hM55,⟨rfl,hw55⟩,hk55,rfl⟩:=hr55;rw[hM55,I0] at hq;refine kA1 ?_;refine pD (lnR b a55 r55.length u55) ?_;refine A0 Ef (E1 Et) (a0F b a55 u55 r55 _ _ hk55 (by first | exact F4 Me | exact hs.trans Sb)) Lb (fun v hv hx=>?_) fun v57 h57 hr57=>?_
 ·obtain⟨e,hx1,rfl,rfl⟩:=hx;rw[hx1] at hq;exact prP Tryz.f49 hq Sb
 obtain⟨x57,r57,a57,u57,hM57,⟨rfl,hw57⟩,hk57,rfl⟩:=hr57;rw[hM57,I0] at hq;refine xY M1 Eb fun b58=>?_
 refine WL.perm (Mv.perm (bl:=[_])) ?_;refine kQ2 [0,2,6] ?_;refine kA1 ?_;refine xf (E1 Ek) (J5 _ _ _) ?_;refine xY A6 Eb fun b62=>?_
 refine pD (lnR b a57 r57.length u57) ?_;refine A0 Ef (E2 Et Et) (M9 b a57 u57 r57 _ _ _ _ _ hk57 (by first | exact F4 Me | exact hs.trans Sb) (Rd.ofPt rfl (by decide) Me)) Lb (fun v hv hx=>?_) fun v63 h63 hr63=>?_
 ·obtain⟨hx1,rfl,rfl⟩:=hx;rw[a1J hx1] at hq;exact prP Tryz.f49 hq Sb
 obtain⟨hi63,a63,u63,hk63,rfl⟩:=hr63;rw[a1u hi63] at hq;refine kQ0 [0,2,6] ?_;refine kA1 ?_;refine pD (lnR b a63 r57.tail.length u63) ?_;refine A0 Ef (E1 Et) (R8 hg b a63 u63 r57.tail _ _ hk63 (by first | exact F4 Me | exact hs.trans Sb)) Lb (fun v hv hx=>?_) fun v65 h65 hr65=>?_
 ·obtain⟨e,hx1,rfl,rfl⟩:=hx;rw[hx1] at hq;exact prP Tryz.f49 hq Sb
 obtain⟨x65,r65,a65,u65,bl65,hM65,⟨t65,rfl,rfl,hO65⟩,hk65,rfl⟩:=hr65;refine WL.perm ((Mv.perm).cons _) ?_;rw[hM65,I0] at hq;refine kA2 ?_;refine WL.nil (C8 [] (h'':=lnR b a65 r65.length u65::spR b6 (s0 2 x55 ⟨some ⟨b58,0,none⟩,1,[x57]⟩ t65)::psR z i::((nmR b58 x57::bl65)++h)) ?_ Su Sb ⟨s0 2 x55 ⟨some ⟨b58,0,none⟩,1,[x57]⟩ t65,nmR b58 x57::bl65,a65,u65,r65,⟨sS1 (by decide) hw55 (Rd.ofPt rfl (by show 1<=_;decide) (List.Mem.head _)) (Y6 hw57) (hO65.mono (List.sublist_cons_self _ _)),hk65,hq.trans (by rw[R6];rfl)⟩,rfl,rfl⟩);exact Su;replace he53:=he53.trans (if_neg (G6 c50));subst r53;rw[if_neg (G6 c50)] at hq;refine kA1 ?_;refine xf (E1 Ek) (G5 _ _ _) ?_;refine xf (E2 Et Et) (a1Z b a53 u53 ts _ _ _ Me hk53 (by first | exact F4 Me | exact hs.trans Sb)) ?_;refine kP1 [0,2,6,67] ?_
 refine H9 KKh [0,2,6] rfl (fun F' h'=>∃ q:Bool,(q=(isM 5 [91] ts||isM 2 [73,78,84] ts||isM 2 [66,89,84,69] ts||isM 2 [66,79,79,76] ts||isM 2 [67,72,65,78] ts||isM 2 [84,73,77,69,82] ts))/\F'=[(67,.bool q)]/\lnR b a53 ts.length u53::spR b6 D2::psR z i::h=h') ?_ ?_;refine jE ?_;refine wc (fun c67=>?_) fun c67=>?_
 have e0:isM 5 [91] ts=true:=c67;refine WC.skip (C8 [(67,.bool (isM 5 [91] ts))] (h'':=lnR b a53 ts.length u53::spR b6 D2::psR z i::h) ?_ Su Sb ⟨isM 5 [91] ts,by rw[e0];rfl,rfl,rfl⟩);exact Su;have d0:isM 5 [91] ts=false:=c67;refine kA1 ?_;refine xf (E1 Ek) (J5 _ _ _) ?_;refine xf (E2 Et Et) (a1Z b a53 u53 ts _ _ _ Me hk53 (by first | exact F4 Me | exact hs.trans Sb)) ?_;refine kQ1 [0,2,6,67] ?_;refine wc (fun c67=>?_) fun c67=>?_
 have e1:isM 2 [73,78,84] ts=true:=c67;refine WC.skip (C8 [(67,.bool (isM 2 [73,78,84] ts))] (h'':=lnR b a53 ts.length u53::spR b6 D2::psR z i::h) ?_ Su Sb ⟨isM 2 [73,78,84] ts,by rw[d0,e1];rfl,rfl,rfl⟩);exact Su;have d1:isM 2 [73,78,84] ts=false:=c67;refine kA1 ?_;refine xf (E1 Ek) (J5 _ _ _) ?_;refine xf (E2 Et Et) (a1Z b a53 u53 ts _ _ _ Me hk53 (by first | exact F4 Me | exact hs.trans Sb)) ?_;refine kQ1 [0,2,6,67] ?_;refine wc (fun c67=>?_) fun c67=>?_
 have e2:isM 2 [66,89,84,69] ts=true:=c67;refine WC.skip (C8 [(67,.bool (isM 2 [66,89,84,69] ts))] (h'':=lnR b a53 ts.length u53::spR b6 D2::psR z i::h) ?_ Su Sb ⟨isM 2 [66,89,84,69] ts,by rw[d0,d1,e2];rfl,rfl,rfl⟩);exact Su;have d2:isM 2 [66,89,84,69] ts=false:=c67;refine kA1 ?_;refine xf (E1 Ek) (J5 _ _ _) ?_;refine xf (E2 Et Et) (a1Z b a53 u53 ts _ _ _ Me hk53 (by first | exact F4 Me | exact hs.trans Sb)) ?_;refine kQ1 [0,2,6,67] ?_;refine wc (fun c67=>?_) fun c67=>?_
 have e3:isM 2 [66,79,79,76] ts=true:=c67;refine WC.skip (C8 [(67,.bool (isM 2 [66,79,79,76] ts))] (h'':=lnR b a53 ts.length u53::spR b6 D2::psR z i::h) ?_ Su Sb ⟨isM 2 [66,79,79,76] ts,by rw[d0,d1,d2,e3];rfl,rfl,rfl⟩);exact Su;have d3:isM 2 [66,79,79,76] ts=false:=c67;refine kA1 ?_;refine xf (E1 Ek) (J5 _ _ _) ?_;refine xf (E2 Et Et) (a1Z b a53 u53 ts _ _ _ Me hk53 (by first | exact F4 Me | exact hs.trans Sb)) ?_;refine kQ1 [0,2,6,67] ?_;refine wc (fun c67=>?_) fun c67=>?_
 have e4:isM 2 [67,72,65,78] ts=true:=c67;refine WC.skip (C8 [(67,.bool (isM 2 [67,72,65,78] ts))] (h'':=lnR b a53 ts.length u53::spR b6 D2::psR z i::h) ?_ Su Sb ⟨isM 2 [67,72,65,78] ts,by rw[d0,d1,d2,d3,e4];rfl,rfl,rfl⟩);exact Su;have d4:isM 2 [67,72,65,78] ts=false:=c67;refine kA1 ?_;refine xf (E1 Ek) (J5 _ _ _) ?_;refine xf (E2 Et Et) (a1Z b a53 u53 ts _ _ _ Me hk53 (by first | exact F4 Me | exact hs.trans Sb)) ?_;refine kA1 ?_;refine WL.nil (C8 [(67,.bool (isM 2 [84,73,77,69,82] ts))] (h'':=lnR b a53 ts.length u53::spR b6 D2::psR z i::h) ?_ Su Sb ⟨isM 2 [84,73,77,69,82] ts,by rw[d0,d1,d2,d3,d4];rfl,rfl,rfl⟩);exact Su;rintro _ _ ⟨q,hqq,rfl,rfl⟩;refine B1 rfl ?_;rw[<- hqq] at hq;refine jE ?_;refine wc (fun c67=>?_) fun c67=>?_
 rw[if_pos c67] at hq;refine kA1 ?_;refine pD (lnR b a53 ts.length u53) ?_;refine A0 Ef (E1 Et) (a9I hg b a53 u53 ts _ _ hk53 (by first | exact F4 Me | exact hs.trans Sb)) Lb (fun v hv hx=>?_) fun v87 h87 hr87=>?_
 ·obtain⟨e,hx1,rfl,rfl⟩:=hx;rw[hx1] at hq;exact prP Tryz.f49 hq Sb
 obtain⟨x87,r87,a87,u87,hM87,⟨rfl,hw87⟩,hk87,rfl⟩:=hr87;rw[hM87,I0] at hq;refine kA2 ?_;refine xG (PO.makeFunc (E1 Et) Evs.nil) ?_;refine pD (lnR b a87 r87.length u87) ?_;refine A0 Ef (E4 Et Ek Ek Et) (b6m 75 U6 [44] 8 b a87 u87 r87 _ _ hk87 (by first | exact F4 Me | exact hs.trans Sb) (by decide) (fun a c ts h hk hs=>a0F b a c ts h _ hk hs)) Lb (fun v hv hx=>?_) fun v91 h91 hr91=>?_
 ·obtain⟨e,hx1,rfl,rfl⟩:=hx;rw[hx1] at hq;exact prP Tryz.f49 hq Sb
 obtain⟨x91,r91,a91,u91,bl91,hM91,⟨p91,q91,rfl,hS91,hO91⟩,hk91,rfl⟩:=hr91;refine WL.perm ((Mv.perm).cons _) ?_;rw[hM91,I0] at hq;refine kQ2 [0,2,6] ?_;refine kA1 ?_;refine xf (E1 Ek) (J5 _ _ _) ?_;refine pD (lnR b a91 r91.length u91) ?_;refine xg (E2 Et Et) (K2 b a91 u91 r91 _ _ _ hk91 (by first | exact F4 Me | exact hs.trans Sb)) ?_;rintro _ _ ⟨a95,u95,r95,rfl,he95,hk95,rfl⟩;refine kQ0 [0,2,6,95] ?_;refine wc (fun c95=>?_) fun c95=>?_
 replace he95:=he95.trans (if_pos c95);subst r95;rw[if_pos c95] at hq;refine kA1 ?_;refine pD (lnR b a95 r91.tail.length u95) ?_;refine A0 Ef (E1 Et) (a0e hg b a95 u95 r91.tail _ _ hk95 (by first | exact F4 Me | exact hs.trans Sb)) Lb (fun v hv hx=>?_) fun v97 h97 hr97=>?_
 ·obtain⟨e,hx1,rfl,rfl⟩:=hx;rw[hx1] at hq;exact prP Tryz.f49 hq Sb
 obtain⟨x97,r97,a97,u97,bl97,hM97,⟨t97,rfl,rfl,hO97⟩,hk97,rfl⟩:=hr97;refine WL.perm ((Mv.perm).cons _) ?_;rw[hM97,I0] at hq;refine kA4 ?_;rw[<- List.append_assoc bl97 bl91];refine WL.nil (C8 [] (h'':=lnR b a97 r97.length u97::spR b6 (s0 3 x87 ⟨p91,q91,x91⟩ t97)::psR z i::((bl97++bl91)++h)) ?_ Su Sb ⟨s0 3 x87 ⟨p91,q91,x91⟩ t97,bl97++bl91,a97,u97,r97,⟨sS1 (by decide) hw87 (hS91.mono Vl (List.sublist_append_right _ _)) hO91 (hO97.mono (List.sublist_append_left _ _)),hk97,hq.trans (by rw[R6];rfl)⟩,rfl,rfl⟩);exact Su;replace he95:=he95.trans (if_neg (G6 c95));subst r95;rw[if_neg (G6 c95)] at hq;refine WC.skip (C8 [] (h'':=lnR b a95 r91.length u95::spR b6 (s0 1 x87 ⟨p91,q91,x91⟩ A2)::psR z i::(bl91++h)) ?_ Su Sb ⟨s0 1 x87 ⟨p91,q91,x91⟩ A2,bl91,a95,u95,r91,⟨sS1 (by decide) hw87 hS91 hO91 (E6 _ _),hk95,hq.trans (by rw[R6];rfl)⟩,rfl,rfl⟩);exact Su;rw[if_neg (G6 c67)] at hq
 refine WC.take (r:=psR z i) De ?_;refine kQ3 [6,7] ?_;refine WC.ret (toX (.inl rfl) (b5O (h':=psR z i::([lnR b a53 ts.length u53]++h)) (.inl rfl) rfl (I1 a8c rfl rfl rfl Me rfl) (RV.tmp rfl) Vl Sb ?_));exact⟨none,i,[lnR b a53 ts.length u53],D2,hq,rfl,rfl,fun _=>⟨rfl,_,_,rfl,hk53⟩,nofun⟩;rintro _ _ ⟨s,bl,x,y,r,⟨hS,hk1,hq⟩,rfl,rfl⟩;refine B1 rfl ?_;replace hq:a6a z.R (B9 z.R n) d ts i=U8 5 [58] r i fun r=>if spP (stS s) then F1 r i fun i=>.ok (some (stS s),i) else .error (110,i):=hq
 rw[c1c] at hq;refine kA1 ?_;refine xf (E1 Ek) (G5 _ _ _) ?_;refine xY A6 Eb fun b102=>?_
 refine pD (lnR b x r.length y) ?_;refine A0 Ef (E2 Et Et) (M9 b x y r _ _ _ _ _ hk1 (by first | exact F4 Me | exact hs.trans Sb) (Rd.ofPt rfl (by decide) Me)) Lb (fun v hv hx=>?_) fun v103 h103 hr103=>?_
 ·obtain⟨hx1,rfl,rfl⟩:=hx;rw[a1J hx1] at hq;exact prP Tryz.f49 hq Sb
 obtain⟨hi103,a103,u103,hk103,rfl⟩:=hr103;rw[a1u hi103] at hq;refine kQ0 [0,2,6] ?_;refine kA1 ?_;refine xf (E1 Et) (b3m hg s (hS.ok.mono ((List.sublist_append_left _ _).trans Sb))) ?_;refine kQ1 [0,2,6,106] ?_;refine wc (fun c106=>?_) fun c106=>?_
 have d106:spP s=false:=by simpa using c106
 rw[if_neg (G6 d106)] at hq;refine j0 ?_;refine A0 Ef Evs.nil (H8 _ _) Lb (fun v hv hx=>?_) fun v107 h107 hr107=>?_
 ·obtain⟨rfl,rfl⟩:=hx;exact prP Tryz.f49 hq Sb
 exact hr107.elim;have d106:spP s=true:=by simpa using c106
 rw[if_pos d106] at hq;refine kQ0 [0,2,6] ?_;refine kA2 ?_;refine WL.perm ((Del.perm (r:=psR z i) De).trans ((Del.perm (r:=lnR b a103 r.tail.length u103) De).cons _)) ?_;refine A0 Ef (E2 Et Et) (K5 hz i b a103 u103 r.tail _ (by omega)) Lb (fun v hv hx=>?_) fun v110 h110 hr110=>?_
 ·obtain⟨hx1,rfl,rfl⟩:=hx;rw[L8 hx1] at hq;exact prP Tryz.f49 hq Sb
 obtain⟨hz110,rfl⟩:=hr110;rw[L9 hz110] at hq;refine kQ0 [6] ?_;refine kQ3 [6,7] ?_;refine WC.ret (toX (.inl rfl) (b5O (h':=psR z (i+1)::(bl++h)) (.inl rfl) rfl (I1 a8c rfl rfl rfl Me rfl) (RV.tmp rfl) Vl Sb ?_));exact a7D hq (by omega) rfl hS rfl
end
section
open Go.Eng Go.Pc Go.Sx Go
open Go.Xp hiding B D5
open Go.Ty (Ty Vr Tok eqT tyV I4 B2 B4 R1 zeroK L7 D3)
open Go.Lx (encB C4 lexO)
open Go.Ly (Rw O6 G8)
def kvs (bp:Nat):List (List UInt8 × Value):=[([83,75,73,80],.func (.func 89) #[ptV bp] #[]),([83,84,79,80],.func (.func 90) #[ptV bp] #[]),([83,69,81],.func (.func 91) #[ptV bp] #[]),([80,65,82],.func (.func 92) #[ptV bp] #[]),([80,82,73],.func (.func 93) #[ptV bp] #[]),([65,76,84],.func (.func 94) #[ptV bp] #[]),([73,70],.func (.func 95) #[ptV bp] #[]),([67,65,83,69],.func (.func 96) #[ptV bp] #[]),([87,72,73,76,69],.func (.func 97) #[ptV bp] #[]),([80,76,65,67,69,68],.func (.func 98) #[ptV bp] #[])]
theorem a8b (bp:Nat) (h:List Res) (m:View):CT Tryz.prog 50 [ptV bp] h m (fun v _ h'=>∃ b es ck,v=.map (some b)/\a7j es (kvs bp)/\h'=.pt b (.map es ck)::h):=by
 refine CT.body Tryz.call50 Tryz.func50 rfl Tryz.ntmps50 Lb rfl ?_;refine kQ1 [0] ?_;refine WL.makeMap Lb fun b3=>?_
 have hM0:a7j #[] []:=rfl;refine kA1 ?_;refine xG (PO.makeFunc (E1 Et) Evs.nil) ?_;refine O9 (.inr rfl) a2L uu9 hM0 rfl Et Ek Et (fun _ _=>Up) fun es1 ck1 hM1=>?_
 refine kA1 ?_;refine xG (PO.makeFunc (E1 Et) Evs.nil) ?_;refine O9 (.inr rfl) a2L uu9 hM1 rfl Et Ek Et (fun _ _=>Up) fun es2 ck2 hM2=>?_
 refine kA1 ?_;refine xG (PO.makeFunc (E1 Et) Evs.nil) ?_;refine O9 (.inr rfl) a2L uu9 hM2 rfl Et Ek Et (fun _ _=>Up) fun es3 ck3 hM3=>?_
 refine kA1 ?_;refine xG (PO.makeFunc (E1 Et) Evs.nil) ?_;refine O9 (.inr rfl) a2L uu9 hM3 rfl Et Ek Et (fun _ _=>Up) fun es4 ck4 hM4=>?_
 refine kA1 ?_;refine xG (PO.makeFunc (E1 Et) Evs.nil) ?_;refine O9 (.inr rfl) a2L uu9 hM4 rfl Et Ek Et (fun _ _=>Up) fun es5 ck5 hM5=>?_
 refine kA1 ?_;refine xG (PO.makeFunc (E1 Et) Evs.nil) ?_;refine O9 (.inr rfl) a2L uu9 hM5 rfl Et Ek Et (fun _ _=>Up) fun es6 ck6 hM6=>?_
 refine kA1 ?_;refine xG (PO.makeFunc (E1 Et) Evs.nil) ?_;refine O9 (.inr rfl) a2L uu9 hM6 rfl Et Ek Et (fun _ _=>Up) fun es7 ck7 hM7=>?_
 refine kA1 ?_;refine xG (PO.makeFunc (E1 Et) Evs.nil) ?_;refine O9 (.inr rfl) a2L uu9 hM7 rfl Et Ek Et (fun _ _=>Up) fun es8 ck8 hM8=>?_
 refine kA1 ?_;refine xG (PO.makeFunc (E1 Et) Evs.nil) ?_;refine O9 (.inr rfl) a2L uu9 hM8 rfl Et Ek Et (fun _ _=>Up) fun es9 ck9 hM9=>?_
 refine kA1 ?_;refine xG (PO.makeFunc (E1 Et) Evs.nil) ?_;refine O9 (.inr rfl) a2L uu9 hM9 rfl Et Ek Et (fun _ _=>Up) fun es10 ck10 hM10=>?_
 refine kQ2 [2] ?_;refine wT (.pt b3 (.map es10 ck10)::h) ?_;exact⟨b3,es10,ck10,rfl,hM10,rfl⟩
theorem a8n (bp:Nat) (h:List Res) (m:View):CX Tryz.prog 50 [ptV bp] h m (fun v _ h'=>∃ hp',h'=hp'++h/\∃ b es ck,v=.map (some b)/\a7j es (kvs bp)/\hp'=[.pt b (.map es ck)]) (fun _ _=>False):=
 CX.ofCT (CT.conv (a8b bp h m) fun _ m' _ _ _ st ⟨b,es,ck,e1,e2,e3⟩=>⟨m',[.pt b (.map es ck)]++h,Vl,by rw[e3] at st;exact st,_,rfl,b,es,ck,e1,e2,rfl⟩)
abbrev c4a (m:View) (z:Pz) (n:Nat) (id:FuncId) (f:Int->List Tok->Nat->PE Pr):Prop:=∀ (d:Int) (i b:Nat) (a:Option Addr) (c:Nat) (ts:List Tok) (h hT:List Res),Tk2 m hT a c ts->hT.Sublist h->i < z.R.length->z.R.length<=i+n+1->(0<=d/\d<=32) ->
 QrX m z id [ptV z.bp,.int .i64 d,ptV b] i b a c ts h (f d ts i) (OP m)
theorem b9v {m:View} (hg:Glob m) {z:Pz} (hz:Pok m z) {n:Nat} (hrec:REC m z n) {s:B} {v:Value} (hv:a0B s (kvs z.bp)=some v):∃ id,v=.func (.func id) #[ptV z.bp] #[]/\∃ f,a3n z.R (B9 z.R n) s=some f/\c4a m z n id f:=by
 by_cases h0:s=[83,75,73,80]
 ·subst h0
  exact⟨_,(Option.some.inj hv).symm,_,rfl,fun d i b a c ts h _ _ _ hi _ _=>b9X hz d i b a c ts h hi⟩
 by_cases h1:s=[83,84,79,80]
 ·subst h1
  exact⟨_,(Option.some.inj hv).symm,_,rfl,fun d i b a c ts h _ _ _ hi _ _=>c05 hz d i b a c ts h hi⟩
 by_cases h2:s=[83,69,81]
 ·subst h2
  exact⟨_,(Option.some.inj hv).symm,_,rfl,fun d i b a c ts h hT=>c0l hg hz hrec d i b a c ts h hT⟩
 by_cases h3:s=[80,65,82]
 ·subst h3
  exact⟨_,(Option.some.inj hv).symm,_,rfl,fun d i b a c ts h hT=>c0d hg hz hrec d i b a c ts h hT⟩
 by_cases h4:s=[80,82,73]
 ·subst h4
  exact⟨_,(Option.some.inj hv).symm,_,rfl,fun d i b a c ts h hT=>c2f hg hz hrec d i b a c ts h hT⟩
 by_cases h5:s=[65,76,84]
 ·subst h5
  exact⟨_,(Option.some.inj hv).symm,_,rfl,fun d i b a c ts h hT=>c04 hg hz hrec d i b a c ts h hT⟩
 by_cases h6:s=[73,70]
 ·subst h6
  exact⟨_,(Option.some.inj hv).symm,_,rfl,fun d i b a c ts h hT=>b1X hg hz hrec d i b a c ts h hT⟩
 by_cases h7:s=[67,65,83,69]
 ·subst h7
  exact⟨_,(Option.some.inj hv).symm,_,rfl,fun d i b a c ts h hT=>c2K hg hz hrec d i b a c ts h hT⟩
 by_cases h8:s=[87,72,73,76,69]
 ·subst h8
  exact⟨_,(Option.some.inj hv).symm,_,rfl,fun d i b a c ts h hT=>b9M hg hz hrec d i b a c ts h hT⟩
 by_cases h9:s=[80,76,65,67,69,68]
 ·subst h9
  exact⟨_,(Option.some.inj hv).symm,_,rfl,fun d i b a c ts h hT=>b4A hg hz hrec d i b a c ts h hT⟩
 exfalso;unfold kvs at hv;simp only[a0B,if_neg h0,if_neg h1,if_neg h2,if_neg h3,if_neg h4,if_neg h5,if_neg h6,if_neg h7,if_neg h8,if_neg h9] at hv;cases hv
theorem b5s {bp:Nat} {R:List Rw} {rec:Int->Bool->Nat->PE Pr} {s:B} (hv:a0B s (kvs bp)=none):a3n R rec s=none:=by
 by_cases h0:s=[83,75,73,80]
 ·subst h0
  cases hv
 by_cases h1:s=[83,84,79,80]
 ·subst h1
  cases hv
 by_cases h2:s=[83,69,81]
 ·subst h2
  cases hv
 by_cases h3:s=[80,65,82]
 ·subst h3
  cases hv
 by_cases h4:s=[80,82,73]
 ·subst h4
  cases hv
 by_cases h5:s=[65,76,84]
 ·subst h5
  cases hv
 by_cases h6:s=[73,70]
 ·subst h6
  cases hv
 by_cases h7:s=[67,65,83,69]
 ·subst h7
  cases hv
 by_cases h8:s=[87,72,73,76,69]
 ·subst h8
  cases hv
 by_cases h9:s=[80,76,65,67,69,68]
 ·subst h9
  cases hv
 unfold a3n;simp only[if_neg h0,if_neg h1,if_neg h2,if_neg h3,if_neg h4,if_neg h5,if_neg h6,if_neg h7,if_neg h8,if_neg h9]
theorem b7e {m:View} (hg:Glob m) {z:Pz} (hz:Pok m z) (i:Nat) (d:Int) (h:List Res) (hi:i=z.R.length):CX Tryz.prog 30 [ptV z.bp,.int .i64 d] (psR z i::h) m
 (fun _ _ _=>False) (fun v h'=>v=wrV 110/\h'=psR z i::h):=
 (a2p hg hz i d h (by omega)).mono (fun _ _ _ ⟨_,_,_,_,hM,_⟩=>absurd (a0O hz hM).1.1 (by omega)) fun _ _ ⟨e,j,hM,e1,e2⟩=>by
  rw[a2k (by omega)] at hM;cases hM;exact⟨e1,e2⟩
theorem c4e {m:View} (hg:Glob m) {z:Pz} (hz:Pok m z):REC m z 0:=by
 intro i d top h hi hf hd;have hq:B9 z.R 0 d top i=.error (110,i):=rfl;refine CX.body Tryz.call29 Tryz.func29 rfl Tryz.ntmps29 Lb rfl ?_;refine j0 ?_;refine xW fun b6=>?_
 refine kQ0 [0,1,2,6] ?_;refine kA2 ?_;refine pD (psR z i) ?_;refine A0 Ef (E2 Et Et) (b7e hg hz i d _ (by omega)) Lb (fun v hv hx=>?_) fun v14 h14 hr14=>?_
 ·obtain⟨rfl,rfl⟩:=hx
  exact prP Tryz.f29 hq Sb
 exact hr14.elim
set_option maxHeartbeats 2000000 in
theorem c4t {m:View} (hg:Glob m) {z:Pz} (hz:Pok m z) {n:Nat} (hrec:REC m z n):REC m z (n+1):=by
 intro i d top h hi hf hd;have hR:=hz.ok.1;have hq:B9 z.R (n+1) d top i=a0C z.R d i fun ts=>P8 (a6a z.R (B9 z.R n) d ts i) fun so i=>match so with
  | some s=>P8 (B9 z.R n d top i) fun x i=>.ok (prM 18 [] A2 [] [] D1 [] [x] [] s,i)
  | none=>a5W z.R (B9 z.R n) d top ts i:=rfl
 refine CX.body Tryz.call29 Tryz.func29 rfl Tryz.ntmps29 Lb rfl ?_;refine j0 ?_;refine xW fun b6=>?_
 refine kQ0 [0,1,2,6] ?_;refine kA2 ?_;refine pD (psR z i) ?_;refine A0 Ef (E2 Et Et) (a2p hg hz i _ _ (by omega)) Lb (fun v hv hx=>?_) fun v14 h14 hr14=>?_
 ·obtain⟨e,j,hx1,rfl,rfl⟩:=hx;(first | rw[hx1] at hq | rw[I5 hx1] at hq);exact prP Tryz.f29 hq Sb
 obtain⟨r14,b14,a14,u14,hM14,rfl,hk14,rfl⟩:=hr14;have ho14:=a0O hz hM14;rw[a3k hM14] at hq;refine kQ1 [0,1,2,6,7] ?_;refine kA3 ?_;refine WL.perm ((Del.perm (r:=psR z i) De).trans ((Del.perm (r:=lnR b14 a14 r14.length u14) De).cons _)) ?_;refine A0 Ef (E3 Et Et Et) (c0j hg hz hrec d i b14 a14 u14 r14 _ _ hk14 (F4 Me) (by omega) (by omega) (by omega)) Lb (fun v hv hx=>?_) fun v19 h19 hr19=>?_
 ·obtain⟨e,j,hx1,rfl,rfl⟩:=hx;(first | rw[hx1] at hq | rw[I5 hx1] at hq);exact prP Tryz.f29 hq Sb
 obtain⟨so,j19,X19,s19,hM19,rfl,rfl,hN,hS⟩:=hr19;refine WL.perm ((Mv.perm).cons _) ?_;rw[hM19,O1] at hq;refine kA3 ?_;refine xW fun b8=>?_
 refine kQ2 [0,1,2,6,7,8,9] ?_;refine kQ1 [0,1,2,6,7,8,22] ?_;refine wc (fun c22=>?_) fun c22=>?_
 obtain⟨s',rfl⟩:=Option.isSome_iff_exists.1 c22;obtain⟨hj19,hst19,hS19⟩:=hS s' rfl;dsimp only at hq;refine jE ?_;refine WC.drop (h':=spR b8 s19::psR z j19::prR b6 (p0 0 [] A2 B7 B7 D1)::(X19++h)) Sb ?_;refine WC.take (r:=psR z j19) De ?_;refine F2 [4,5] (.op 0 (.op 1 (.op 2 (.op 3 (.op 4 (.op 5 .nil)))))) [6,7] _ [_] D6 (fun _ _ _ _ _ h=>h) [] (by kernel_rfl) ?_;refine kA4 ?_;refine a1e rfl rfl Ef (E3 Et Et Et) (fun fr=>c1W hrec j19 d top _ (by omega) (by omega) (by omega)) Lb (fun fr v hv hx=>?_) fun v27 h27 hr27=>?_
 ·obtain⟨e,j2,hx1,rfl,rfl⟩:=hx
  rw[hx1] at hq;exact prP Tryz.f29 hq ((a1M Sb fr).cons_cons _)
 obtain⟨p27,j27,bl27,hM27,hj27,rfl,hO27,rfl⟩:=hr27;refine sB rfl Z8 fun b28=>?_
 refine a1G (H:=psR z j27::prR b28 p27::spR b8 s19::prR b6 (p0 0 [] A2 B7 B7 D1)::(bl27++(X19++h))) rfl ((List.Perm.swap _ _ _).trans (((V2 bl27 [_,_] (X19++h)).cons _).cons _)) ?_;refine kQ2 [6] ?_;refine xT (psR z j27::(prR b28 p27::(bl27++(X19++h)))) (h1:=cA S1) ?_;rw[hM27,O1] at hq;exact⟨_,_,prR b28 p27::(bl27++X19),hq,⟨by omega,hj27.2⟩,⟨.mk 18 [] A2 B7 B7 D1 none 0 [] (some ⟨b28,0,none⟩) 1 [p27] B7 s19,rfl,hst19 ▸ R4 _,a4a (by decide) (Nat.zero_le _) (E6 _ _) (F5 _ _) (F5 _ _) (U1 _ _) (a0b _ _) ⟨Rd.ofPt rfl (by show 1<=_;decide) (List.Mem.head _),Y6 (hO27.mono ((List.sublist_append_left _ _).cons _))⟩ (W7 _ _) (hS19.mono ((List.sublist_append_right _ _).cons _))⟩,by rw[List.cons_append,List.append_assoc]⟩
 obtain rfl:so=none:=by cases so with | none=>rfl | some _=>cases c22
 obtain⟨hji,a2,c2,rfl,hk2⟩:=hN rfl;obtain rfl:i=j19:=hji.symm;dsimp only at hq;have hne:=c0w hz hM14;obtain⟨t,ht⟩:∃ t,t=r14.getD 0 zeroK:=⟨_,rfl⟩;have hel:r14[0]?=some t:=by rw[ht,List.getD_eq_getElem?_getD,List.getElem?_eq_getElem hne];rfl
 have hrd:=hk2.k.rd;refine kQ0 [0,1,2,6,7] ?_;refine F2 [1,9] (.op 0 (.op 2 (.op 3 (.op 4 (.op 5 (.op 6 (.op 7 (.op 8 (.op 1 (.op 9 (.op 10 (.op 11 (.op 12 .nil))))))))))))) [13,14] _ [] D6 (fun _ _ _ _ _ h=>h) [12] (by kernel_rfl) ?_;refine kA5 ?_;refine yG rfl (G1 A6.und A6.size A6.posz (Ev.tmp rfl) Ek Rr rfl (q:=0) (by omega)) ?_;refine kA2 ?_;refine a1e rfl rfl Ef (E1 Et) (fun fr=>a8n z.bp _ m) Lb (fun fr v hv hx=>?_) fun v32 h32 hr32=>?_
 ·exact hx.elim
 obtain⟨b32,es32,ck32,rfl,hM32,rfl⟩:=hr32;refine b2X rfl rfl (fun fr=>b2s a2L uu9 rfl hM32 Et Et (List.mem_append_right _ Me)) Lb ?_;refine kA1 ?_;refine yG rfl (PO.extract Et rfl) ?_;refine yG rfl (PO.extract Et rfl) ?_;refine SR.nil rfl rfl ?_;refine kQ2 [0,1,2,6,7,10,11] ?_;refine kA3 ?_;refine zG (fun hc=>PO.nilCheck (Eg hc)) ?_;refine kA2 ?_;refine F6 (GU.t rfl rfl) (fun hc=>G1 A6.und A6.size A6.posz (Eg hc) Ek Rr rfl (q:=0) (by omega)) Lb ?_;refine zG (fun hc=>H4 H2 rfl (Nat.ne_of_beq_eq_false rfl) B4 (Nat.succ_pos _) Rr (by assumption) (Eg hc)) ?_;refine zG (fun hc=>H5 a5P rfl B4 Rr (Eg hc) (by assumption) rfl) ?_;refine kA6 ?_;refine zG (fun hc=>PO.nilCheck (Eg hc)) ?_;refine kA2 ?_;refine F6 (a3p rfl rfl) (fun hc=>G1 A6.und A6.size A6.posz (Eg hc) Ek Rr rfl (q:=0) (by omega)) Lb ?_
 refine zG (fun hc=>H4 H2 rfl (Nat.ne_of_beq_eq_false rfl) B4 (Nat.succ_pos _) Rr (by assumption) (Eg hc)) ?_;refine zG (fun hc=>H5 uu9 rfl B4 Rr (Eg hc) (by assumption) rfl) ?_;refine zG (fun hc=>P2 (Eg hc) Ek) ?_;refine zG (fun hc=>a2y hc rfl rfl) ?_;refine kQ1 [0,1,6,7,10,66] ?_;refine wc (fun c66=>?_) fun c66=>?_
 have d66:(∃ v,a0B t.text (kvs z.bp)=some v)/\t.kind=2/\(top=true\/t.text≠[80,76,65,67,69,68]):=by
  simp only[Bool.and_eq_true,Bool.or_eq_true,beq_iff_eq,Bool.not_eq_true',beq_eq_false_iff_ne,ne_eq] at c66;exact⟨Option.isSome_iff_exists.1 c66.1.1,c66.1.2,c66.2⟩
 obtain⟨⟨v,hv⟩,hc⟩:=d66;obtain⟨id,rfl,f,hf2,hQ⟩:=b9v hg hz hrec hv;rw[b4M hel hf2 hc] at hq;rw[hv];refine kA5 ?_;refine xG (a0c A6.und A6.size Et Ek (l:=1) rfl (by omega)) ?_;refine kA3 ?_;rw[<- List.length_tail];refine kQ0 [1,6,7,10] ?_;refine kA3 ?_;refine WL.perm ((Del.perm (r:=psR z i) De).trans ((Del.perm (r:=lnR b14 (sl1 a2 1 c2 4) r14.tail.length (c2 - 1)) De).cons _)) ?_;refine A0 (Ev.tmp rfl) (E2 (Ev.tmp rfl) (Ev.tmp rfl)) (hQ d i b14 _ _ r14.tail _ _ (hk2.tail hne) (F4 Me) (by omega) (by omega) (by omega)) Lb (fun v hv hx=>?_) fun v78 h78 hr78=>?_
 ·obtain⟨e,j,hx1,rfl,rfl⟩:=hx;(first | rw[hx1] at hq | rw[I5 hx1] at hq);exact prP Tryz.f29 hq Sb
 obtain⟨x78,j78,bl78,hM78,hj78,⟨p78,rfl,rfl,hO78⟩,rfl⟩:=hr78;refine WL.perm ((Mv.perm).cons _) ?_;rw[hM78] at hq;refine kQ1 [6] ?_;refine xT (psR z j78::(bl78++h)) (h1:=cA S1) ?_;exact⟨_,_,bl78,hq,hj78,⟨p78,rfl,rfl,hO78⟩,rfl⟩;have d66:a3n z.R (B9 z.R n) t.text=none\/¬ (t.kind=2/\(top=true\/t.text≠[80,76,65,67,69,68])):=by
  cases hv:a0B t.text (kvs z.bp) with
  | none=>exact .inl (b5s hv)
  | some v=>
   refine .inr fun q=>?_
   rw[hv] at c66;have:((((some v).isSome&&(t.kind==2))&&(top||!(t.text==[80,76,65,67,69,68]))):Bool)=true:=by
    simp only[Bool.and_eq_true,Bool.or_eq_true,beq_iff_eq,Bool.not_eq_true',beq_eq_false_iff_ne,ne_eq];exact⟨⟨rfl,q.1⟩,q.2⟩
   exact absurd (this.symm.trans c66) (by decide)
 rw[b0W hel d66] at hq;refine kQ0 [0,1,6,7] ?_;refine kA3 ?_;refine WL.perm ((Del.perm (r:=psR z i) De).trans ((Del.perm (r:=lnR b14 a2 r14.length c2) De).cons _)) ?_;refine A0 Ef (E3 Et Et Et) (b5G hg hz hrec d i b14 a2 c2 r14 _ _ hk2 (F4 Me) (by omega) (by omega) (by omega) hne) Lb (fun v hv hx=>?_) fun v82 h82 hr82=>?_
 ·obtain⟨e,j,hx1,rfl,rfl⟩:=hx;(first | rw[hx1] at hq | rw[I5 hx1] at hq);exact prP Tryz.f29 hq Sb
 obtain⟨x82,j82,bl82,hM82,hj82,⟨p82,rfl,rfl,hO82⟩,rfl⟩:=hr82;refine WL.perm ((Mv.perm).cons _) ?_;rw[hM82] at hq;refine kQ1 [6] ?_;refine xT (psR z j82::(bl82++h)) (h1:=cA S1) ?_;exact⟨_,_,bl82,hq,hj82,⟨p82,rfl,rfl,hO82⟩,rfl⟩
theorem c2U {m:View} (hg:Glob m) {z:Pz} (hz:Pok m z):∀ n,REC m z n
 | 0=>c4e hg hz
 | n+1=>c4t hg hz (c2U hg hz n)
end
end Go.Proofs.YtmhkeomphdddaaaGreatDoor
