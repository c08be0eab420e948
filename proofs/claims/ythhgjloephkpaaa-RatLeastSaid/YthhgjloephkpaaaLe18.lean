/- Words and walks for the row RowRatLeast, put together: RQU, RQG. -/
import Derived.Test.YthhgjloephkpaaaLe17
import Derived.Test.YthhgjloephkpaaaLe6
namespace Go.Proofs.Ythhgjloephkpaaa
set_option linter.unusedVariables false
set_option linter.unusedSimpArgs false
open Go Go.RowKit Go.Proofs.YthhgjloephkpaaaW.PrintWords Go.Proofs.YthhgjloephkpaaaW.PrintLast
set_option maxRecDepth 100000 in
set_option maxHeartbeats 8000000 in
theorem qc_u {vl:List Nat} {ad bd:Addr} {n n1 k c d x y kk k2 nk M yt s:Nat} {w:World} (hx:Wds w (some ad) n c (dg x)) (hy:Wds w (some bd) k d (dg y)) (hk:2≤k) (hkn:k≤n) (hnm:n≤1000000000) (hkk:kk+1=k) (an:k2+2=k) (ao:n1=n+1) (hnk:nk+k=n) (hM:M=nk+1) (hxl:(dg x).length=n) (hyl:(dg y).length=k) (r:s≤31) (W:min s 32=s) (X:min (32 - s) 32=32 - s) (hYB:y * 2 ^ s<BW ^ k) {o l:Nat} {b:List Value} {L:World} (Y:St w L [⟨o,wc (vl),100⟩,⟨l,wc (List.replicate n1 0),100⟩]) {Q:Exit→Act→World→Prop} (hQp:∀ c (a:Act) d v w,Q (.panic c) (a.put d v) w→Q (.panic c) a w) :
  (pR (pL (pR (pR (pR (pR (pR (pR (pR (pF Try.f117)))))))))).wp Try.prog (Exit.then (fun aa_ w'=>∃ (ul:List Nat) (g:List Value),aa_=⟨#[E (some ad) n c,E (some bd) k d,O,O,E none 0 0,E none 0 0,O,O,O,O,J ((s:Nat):Int),E (some ⟨l,0,none⟩) n1 n1,E (some ⟨o,0,none⟩) k k,(GD b 0),(GD g 0),O,O,O,O,O,O,O,O,O,O,O,O,O,O,O,O,O,E (some ad) n c,E (some bd) k d,I (cmpN (x) (y)),T false,O,O,E (some bd) k d,I (k:Int),T false,O,O,O,O,O,O,O,O,O,O,O,O,O,O,O,O,O,O,O,O,O,O,O,O,O,O,O,O,O,O,O,O,O,O,O,O,O,O,E (some bd) k d,E (some bd) k d,I (k:Int),I ((kk:Nat):Int),.pointer (some (bd.add kk)),.int .u32 ((yt:Nat):Int),I ((s:Nat):Int),J ((s:Nat):Int),E (some ad) n c,I (n:Int),I ((n1:Nat):Int),E (some ⟨l,0,none⟩) n1 n1,E (some bd) k d,I (k:Int),E (some ⟨o,0,none⟩) k k,E (some bd) k d,I (k:Int),(GD b 1),(GD b 2),(GD b 3),(GD b 4),(GD b 5),(GD b 6),(GD b 7),(GD b 8),(GD b 9),(GD b 10),(GD b 11),(GD b 12),(GD b 13),(GD b 14),(GD b 15),(GD b 16),(GD b 17),(GD b 18),(GD b 19),(GD b 20),(GD b 21),(GD b 22),(GD b 23),(GD b 24),(GD b 25),(GD b 26),(GD b 27),(GD b 28),(GD b 29),(GD b 30),(GD b 31),(GD b 32),(GD b 33),E (some ⟨l,0,none⟩) n1 n1,I (n1:Int),(GD g 1),(GD g 2),(GD g 3),(GD g 4),(GD g 5),(GD g 6),(GD g 7),(GD g 8),(GD g 9),(GD g 10),(GD g 11),(GD g 12),(GD g 13),(GD g 14),(GD g 15),(GD g 16),(GD g 17),(GD g 18),(GD g 19),(GD g 20),(GD g 21),(GD g 22),(GD g 23),(GD g 24),(GD g 25),(GD g 26),(GD g 27),(GD g 28),(GD g 29),(GD g 30),(GD g 31),(GD g 32),(GD g 33),(GD g 34),(GD g 35),(GD g 36),(GD g 37),O,O,O,O,O,O,O,O,O,O,O,O,O,O,O,O,O,O,O,O,O,O,O,O,O,O,O,O,O,O,O,O,O,O,O,O,O,O,O,O,O,O,O,O,O,O,O,O,O,O,O,O,O,O,O,O,O,O,O,O,O,O,O,O,O,O,O,O,O,O,O,O,O,O,O,O,O,O,O,O,O,O,O,O,O,O,O,O,O,O,O,O,O,O,O,O,O,O,O,O,O,O,O,O,O,O,O,O,O,O,O,O,O,O,O,O,O,O,O,O,O,O,O,O,O,O,O,O,O,O,O,O,O,O,O,O,O,O,O,O,O,O,O,O,O,O,O,O,O,O,O,O,O,O,O,O,O,O,O,O,O,O,O,O,O,O,O,O,O,O,O,O,O,O,O,O,O,O,O,O,O,O,O,O,O,O,O,O,O,O,O,O,O,O,O,O,O,O,O,O,O,O,O,O,O,O,O,O,O,O,O,O,O,O,O,O,O,O,O,O,O,O,O,O],[]⟩∧St w w' [⟨o,wc (vl),100⟩,⟨l,wc (ul),100⟩]∧(ul.length=n1)∧(Dig ul)∧(val ul=x * 2 ^ s)∧True) Q) ⟨#[E (some ad) n c,E (some bd) k d,O,O,E none 0 0,E none 0 0,O,O,O,O,J ((s:Nat):Int),E (some ⟨l,0,none⟩) n1 n1,E (some ⟨o,0,none⟩) k k,(GD b 0),O,O,O,O,O,O,O,O,O,O,O,O,O,O,O,O,O,O,E (some ad) n c,E (some bd) k d,I (cmpN (x) (y)),T false,O,O,E (some bd) k d,I (k:Int),T false,O,O,O,O,O,O,O,O,O,O,O,O,O,O,O,O,O,O,O,O,O,O,O,O,O,O,O,O,O,O,O,O,O,O,O,O,O,O,E (some bd) k d,E (some bd) k d,I (k:Int),I ((kk:Nat):Int),.pointer (some (bd.add kk)),.int .u32 ((yt:Nat):Int),I ((s:Nat):Int),J ((s:Nat):Int),E (some ad) n c,I (n:Int),I ((n1:Nat):Int),E (some ⟨l,0,none⟩) n1 n1,E (some bd) k d,I (k:Int),E (some ⟨o,0,none⟩) k k,E (some bd) k d,I (k:Int),(GD b 1),(GD b 2),(GD b 3),(GD b 4),(GD b 5),(GD b 6),(GD b 7),(GD b 8),(GD b 9),(GD b 10),(GD b 11),(GD b 12),(GD b 13),(GD b 14),(GD b 15),(GD b 16),(GD b 17),(GD b 18),(GD b 19),(GD b 20),(GD b 21),(GD b 22),(GD b 23),(GD b 24),(GD b 25),(GD b 26),(GD b 27),(GD b 28),(GD b 29),(GD b 30),(GD b 31),(GD b 32),(GD b 33),E (some ⟨l,0,none⟩) n1 n1,I (n1:Int),I 0,O,O,O,O,O,O,O,O,O,O,O,O,O,O,O,O,O,O,O,O,O,O,O,O,O,O,O,O,O,O,O,O,O,O,O,O,O,O,O,O,O,O,O,O,O,O,O,O,O,O,O,O,O,O,O,O,O,O,O,O,O,O,O,O,O,O,O,O,O,O,O,O,O,O,O,O,O,O,O,O,O,O,O,O,O,O,O,O,O,O,O,O,O,O,O,O,O,O,O,O,O,O,O,O,O,O,O,O,O,O,O,O,O,O,O,O,O,O,O,O,O,O,O,O,O,O,O,O,O,O,O,O,O,O,O,O,O,O,O,O,O,O,O,O,O,O,O,O,O,O,O,O,O,O,O,O,O,O,O,O,O,O,O,O,O,O,O,O,O,O,O,O,O,O,O,O,O,O,O,O,O,O,O,O,O,O,O,O,O,O,O,O,O,O,O,O,O,O,O,O,O,O,O,O,O,O,O,O,O,O,O,O,O,O,O,O,O,O,O,O,O,O,O,O,O,O,O,O,O,O,O,O,O,O,O,O,O,O,O,O,O,O,O,O,O,O,O,O,O,O,O,O,O,O,O,O,O,O,O,O],[]⟩ L:=by
 show (Code.block 4 _).wp _ _ _ _
 refine wp_block ?_
 refine wp_loop_g (fun mm aa_ w'=>∃ (i:Nat) (ul:List Nat) (e:List Value),aa_=⟨#[E (some ad) n c,E (some bd) k d,O,O,E none 0 0,E none 0 0,O,O,O,O,J ((s:Nat):Int),E (some ⟨l,0,none⟩) n1 n1,E (some ⟨o,0,none⟩) k k,(GD b 0),(GD e 0),O,O,O,O,O,O,O,O,O,O,O,O,O,O,O,O,O,E (some ad) n c,E (some bd) k d,I (cmpN (x) (y)),T false,O,O,E (some bd) k d,I (k:Int),T false,O,O,O,O,O,O,O,O,O,O,O,O,O,O,O,O,O,O,O,O,O,O,O,O,O,O,O,O,O,O,O,O,O,O,O,O,O,O,E (some bd) k d,E (some bd) k d,I (k:Int),I ((kk:Nat):Int),.pointer (some (bd.add kk)),.int .u32 ((yt:Nat):Int),I ((s:Nat):Int),J ((s:Nat):Int),E (some ad) n c,I (n:Int),I ((n1:Nat):Int),E (some ⟨l,0,none⟩) n1 n1,E (some bd) k d,I (k:Int),E (some ⟨o,0,none⟩) k k,E (some bd) k d,I (k:Int),(GD b 1),(GD b 2),(GD b 3),(GD b 4),(GD b 5),(GD b 6),(GD b 7),(GD b 8),(GD b 9),(GD b 10),(GD b 11),(GD b 12),(GD b 13),(GD b 14),(GD b 15),(GD b 16),(GD b 17),(GD b 18),(GD b 19),(GD b 20),(GD b 21),(GD b 22),(GD b 23),(GD b 24),(GD b 25),(GD b 26),(GD b 27),(GD b 28),(GD b 29),(GD b 30),(GD b 31),(GD b 32),(GD b 33),E (some ⟨l,0,none⟩) n1 n1,I (n1:Int),I ((i:Nat):Int),(GD e 1),(GD e 2),(GD e 3),(GD e 4),(GD e 5),(GD e 6),(GD e 7),(GD e 8),(GD e 9),(GD e 10),(GD e 11),(GD e 12),(GD e 13),(GD e 14),(GD e 15),(GD e 16),(GD e 17),(GD e 18),(GD e 19),(GD e 20),(GD e 21),(GD e 22),(GD e 23),(GD e 24),(GD e 25),(GD e 26),(GD e 27),(GD e 28),(GD e 29),(GD e 30),(GD e 31),(GD e 32),(GD e 33),(GD e 34),(GD e 35),(GD e 36),O,O,O,O,O,O,O,O,O,O,O,O,O,O,O,O,O,O,O,O,O,O,O,O,O,O,O,O,O,O,O,O,O,O,O,O,O,O,O,O,O,O,O,O,O,O,O,O,O,O,O,O,O,O,O,O,O,O,O,O,O,O,O,O,O,O,O,O,O,O,O,O,O,O,O,O,O,O,O,O,O,O,O,O,O,O,O,O,O,O,O,O,O,O,O,O,O,O,O,O,O,O,O,O,O,O,O,O,O,O,O,O,O,O,O,O,O,O,O,O,O,O,O,O,O,O,O,O,O,O,O,O,O,O,O,O,O,O,O,O,O,O,O,O,O,O,O,O,O,O,O,O,O,O,O,O,O,O,O,O,O,O,O,O,O,O,O,O,O,O,O,O,O,O,O,O,O,O,O,O,O,O,O,O,O,O,O,O,O,O,O,O,O,O,O,O,O,O,O,O,O,O,O,O,O,O,O,O,O,O,O,O,O,O,O,O,O,O,O,O,O,O,O,O],[]⟩∧St w w' [⟨o,wc (vl),100⟩,⟨l,wc (ul),100⟩]∧(i≤n1)∧(Shl (dg x) s i n1 ul)∧(∀ j,i≤j→ul.getD j 0=0)∧n1 - i=mm) (n1) ⟨0,List.replicate n1 0,[O,O,O,O,O,O,O,O,O,O,O,O,O,O,O,O,O,O,O,O,O,O,O,O,O,O,O,O,O,O,O,O,O,O,O,O,O],rfl,Y,by omega,Shl.start,fun j _=>repl_at n1 j,rfl⟩ ?_
 rintro _ _ ap ⟨i,ul,e,rfl,A,hin,hU,hUz,rfl⟩
 refine wp_seq_k fun aq N=>?_
 refine wp_region_lit ?_
 by_cases P:(((i:Nat):Int):Int)<(n1:Int)
 ·skip
  refine PV (T true) (CT (run_bin (I ((i:Nat):Int)) (I (n1:Int)) _ rfl rfl rfl (bin_lss_3 _ _ _ _)) (congrArg Value.bool (decide_eq_true P))) rfl ?_
  simp only [PA]
  refine wpList_nil ?_
  refine N _ _ ?_
  refine wp_seq_k fun ar aa=>?_
  refine cond_true rfl ?_
  refine wp_skip ?_
  refine aa _ _ ?_
  refine wp_seq_k fun au D=>?_
  refine wp_block ?_
  refine wp_seq_k fun av ab=>?_
  refine wp_region_lit ?_
  refine PV (I ((i:Nat):Int)) rfl rfl ?_
  simp only [PA]
  refine PV (I ((i:Nat):Int)) rfl rfl ?_
  simp only [PA]
  refine wpList_nil ?_
  refine ab _ _ ?_
  refine wp_seq_k fun aw ac=>?_
  refine wp_cut (fun aa_ w'=>∃ (p:List Nat) (sh:Nat) (ai:Nat) (f:List Value),aa_=⟨#[E (some ad) n c,E (some bd) k d,O,O,E none 0 0,E none 0 0,O,O,O,O,J ((s:Nat):Int),E (some ⟨l,0,none⟩) n1 n1,E (some ⟨o,0,none⟩) k k,(GD b 0),I ((i:Nat):Int),O,O,O,O,O,O,O,O,O,O,O,O,O,O,O,O,O,E (some ad) n c,E (some bd) k d,I (cmpN (x) (y)),T false,O,O,E (some bd) k d,I (k:Int),T false,O,O,O,O,O,O,O,O,O,O,O,O,O,O,O,O,O,O,O,O,O,O,O,O,O,O,O,O,O,O,O,O,O,O,O,O,O,O,E (some bd) k d,E (some bd) k d,I (k:Int),I ((kk:Nat):Int),.pointer (some (bd.add kk)),.int .u32 ((yt:Nat):Int),I ((s:Nat):Int),J ((s:Nat):Int),E (some ad) n c,I (n:Int),I ((n1:Nat):Int),E (some ⟨l,0,none⟩) n1 n1,E (some bd) k d,I (k:Int),E (some ⟨o,0,none⟩) k k,E (some bd) k d,I (k:Int),(GD b 1),(GD b 2),(GD b 3),(GD b 4),(GD b 5),(GD b 6),(GD b 7),(GD b 8),(GD b 9),(GD b 10),(GD b 11),(GD b 12),(GD b 13),(GD b 14),(GD b 15),(GD b 16),(GD b 17),(GD b 18),(GD b 19),(GD b 20),(GD b 21),(GD b 22),(GD b 23),(GD b 24),(GD b 25),(GD b 26),(GD b 27),(GD b 28),(GD b 29),(GD b 30),(GD b 31),(GD b 32),(GD b 33),E (some ⟨l,0,none⟩) n1 n1,I (n1:Int),I ((i:Nat):Int),T true,I ((i:Nat):Int),(GD f 0),(GD f 1),(GD f 2),(GD f 3),(GD f 4),(GD f 5),(GD f 6),(GD f 7),(GD f 8),(GD f 9),(GD f 10),(GD f 11),(GD f 12),(GD e 16),(GD e 17),(GD e 18),(GD e 19),(GD e 20),(GD e 21),(GD e 22),(GD e 23),(GD e 24),(GD e 25),(GD e 26),(GD e 27),(GD e 28),(GD e 29),(GD e 30),(GD e 31),(GD e 32),(GD e 33),(GD e 34),(GD e 35),(GD e 36),O,O,O,O,O,O,O,O,O,O,O,O,O,O,O,O,O,O,O,O,O,O,O,O,O,O,O,O,O,O,O,O,O,O,O,O,O,O,O,O,O,O,O,O,O,O,O,O,O,O,O,O,O,O,O,O,O,O,O,O,O,O,O,O,O,O,O,O,O,O,O,O,O,O,O,O,O,O,O,O,O,O,O,O,O,O,O,O,O,O,O,O,O,O,O,O,O,O,O,O,O,O,O,O,O,O,O,O,O,O,O,O,O,O,O,O,O,O,O,O,O,O,O,O,O,O,O,O,O,O,O,O,O,O,O,O,O,O,O,O,O,O,O,O,O,O,O,O,O,O,O,O,O,O,O,O,O,O,O,O,O,O,O,O,O,O,O,O,O,O,O,O,O,O,O,O,O,O,O,O,O,O,O,O,O,O,O,O,O,O,O,O,O,O,O,O,O,O,O,O,O,O,O,O,O,O,O,O,O,O,O,O,O,O,O,O,O,O,O,O,O,O,O,O],[]⟩∧St w w' [⟨o,wc (vl),100⟩,⟨l,wc (p),100⟩]∧(p.length=n1∧∀ v,p.set i v=ul.set i v)∧((dg x).getD i 0=ai)∧(ai<BW)∧(ai * 2 ^ s % BW=sh)∧(p.getD i 0=sh)∧True) ?_ ?_
  ·skip
   refine wp_seq_k fun ax R=>?_
   refine wp_region_lit ?_
   refine PV (I ((i:Nat):Int)) rfl rfl ?_
   simp only [PA]
   refine PV (E (some ad) n c) rfl rfl ?_
   simp only [PA]
   refine PV (I (n:Int)) (run_len36 rfl rfl) rfl ?_
   simp only [PA]
   by_cases S:(((i:Nat):Int):Int)<(n:Int)
   ·skip
    refine PV (T true) (CT (run_bin (I ((i:Nat):Int)) (I (n:Int)) _ rfl rfl rfl (bin_lss_3 _ _ _ _)) (congrArg Value.bool (decide_eq_true S))) rfl ?_
    simp only [PA]
    refine wpList_nil ?_
    refine R _ _ ?_
    refine cond_true rfl ?_
    refine wp_region_lit ?_
    refine PV (E (some ⟨l,0,none⟩) n1 n1) rfl rfl ?_
    simp only [PA]
    refine PV (I ((i:Nat):Int)) rfl rfl ?_
    simp only [PA]
    refine PV (E (some ad) n c) rfl rfl ?_
    simp only [PA]
    refine PV (I ((i:Nat):Int)) rfl rfl ?_
    simp only [PA]
    refine PV (.pointer (some (ad.add i))) (run_idx (t:=36) rfl rfl rfl (by omega)) rfl ?_
    simp only [PA]
    obtain ⟨ai,hai⟩:∃ z:Nat,(dg x).getD i 0=z:=⟨_,rfl⟩
    have haiB:ai<BW:=hai▸(dg_dig x).at_ i
    refine PV (.int .u32 ((ai:Nat):Int)) (CT (run_loadW _ rfl rfl ((hx.below A.bl).cellA (by first | omega)) (ag100 _)) (vnat hai)) rfl ?_
    simp only [PA]
    refine PV (J ((s:Nat):Int)) rfl rfl ?_
    simp only [PA]
    obtain ⟨sh,hsh⟩:∃ z:Nat,ai * 2 ^ s % BW=z:=⟨_,rfl⟩
    refine PV (.int .u32 ((sh:Nat):Int)) (CT (run_bin (.int .u32 ((ai:Nat):Int)) (J ((s:Nat):Int)) _ rfl rfl rfl (bin_shl_100_u64 _ _ _ _)) ((vint w_shl_32).trans (vnat (by rw [W]; exact hsh)))) rfl ?_
    simp only [PA]
    refine PV (.pointer (some ⟨l,i,none⟩)) (run_idxB rfl rfl rfl (by omega)) rfl ?_
    simp only [PA]
    refine wpList_plain rfl fun K hK=>o_stB 1 (sh) ([⟨o,wc (vl),100⟩,⟨l,wc (((ul).set (i) (sh))),100⟩]) rfl rfl rfl A rfl (by first | omega | (have:=hU.1; omega)) rfl fun ay ae=>hK _ _ ?_
    simp only [PA]
    refine wpList_nil ?_
    exact ⟨((ul).set (i) (sh)),_,_,[I ((i:Nat):Int),E (some ad) n c,I (n:Int),T true,E (some ⟨l,0,none⟩) n1 n1,I ((i:Nat):Int),E (some ad) n c,I ((i:Nat):Int),.pointer (some (ad.add i)),.int .u32 ((ai:Nat):Int),J ((s:Nat):Int),.int .u32 ((sh:Nat):Int),.pointer (some ⟨l,i,none⟩)],rfl,ae,⟨by simp only [List.length_set]; exact hU.1,fun v=>by rw [List.set_set]⟩,hai,haiB,hsh,shl_set (by rw [hU.1]; omega),trivial⟩
   ·skip
    refine PV (T false) (CT (run_bin (I ((i:Nat):Int)) (I (n:Int)) _ rfl rfl rfl (bin_lss_3 _ _ _ _)) (congrArg Value.bool (decide_eq_false S))) rfl ?_
    simp only [PA]
    refine wpList_nil ?_
    refine R _ _ ?_
    refine cond_false rfl ?_
    refine wp_skip ?_
    exact ⟨ul,_,_,[I ((i:Nat):Int),E (some ad) n c,I (n:Int),T false,(GD e 7),(GD e 8),(GD e 9),(GD e 10),(GD e 11),(GD e 12),(GD e 13),(GD e 14),(GD e 15)],rfl,A,⟨hU.1,fun v=>rfl⟩,getD_ge (show (dg x).length≤i by omega),BW_pos,rfl,by rw [hUz i (Nat.le_refl _)]; simp,trivial⟩
  ·skip
   rintro _ az ⟨p,sh,ai,f,rfl,F,hW,hai,haiB,hsh,hgs,-⟩
   refine ac _ _ ?_
   refine wp_seq_k fun aA G=>?_
   refine wp_region_lit ?_
   refine PV (I ((i:Nat):Int)) rfl rfl ?_
   simp only [PA]
   by_cases C:(0:Int)<((i:Nat):Int)
   ·skip
    refine PV (T true) (CT (run_bin (I ((i:Nat):Int)) (I 0) _ rfl rfl rfl (bin_gtr_3 _ _ _ _)) (congrArg Value.bool (decide_eq_true C))) rfl ?_
    simp only [PA]
    refine PV (T true) rfl rfl ?_
    simp only [PA]
    refine wpList_on (by kernel_rfl) fun K hK=>o_val (J ((s:Nat):Int)) rfl (hK _ _ ?_)
    simp only [PA]
    by_cases hs0_:(0:Int)<((s:Nat):Int)
    ·skip
     refine wpList_on (by kernel_rfl) fun K hK=>o_val (T true) (CT (run_bin (J ((s:Nat):Int)) (J 0) _ rfl rfl rfl (bin_gtr_106 _ _ _ _)) (congrArg Value.bool (decide_eq_true hs0_))) (hK _ _ ?_)
     simp only [PA]
     refine PV (T true) rfl rfl ?_
     simp only [PA]
     refine wpList_nil ?_
     refine G _ _ ?_
     refine cond_true rfl ?_
     refine region_drawnP 15 (fun j=>decide (14≤j)) (by kernel_rfl) rfl F fun aC H aD=>?_
     refine anyT_here (i:=0) (E (some ⟨l,0,none⟩) n1 n1) rfl (by kernel_rfl) (by kernel_rfl) (by kernel_rfl) (by kernel_rfl) (fun _ _ _ h=>hQp _ _ _ _ _ h) rfl rfl ?_
     simp only [PA]
     refine anyT_here (i:=1) (I ((i:Nat):Int)) rfl (by kernel_rfl) (by kernel_rfl) (by kernel_rfl) (by kernel_rfl) (fun _ _ _ h=>hQp _ _ _ _ _ h) rfl rfl ?_
     simp only [PA]
     refine anyT_here (i:=2) (.pointer (some ⟨l,i,none⟩)) rfl (by kernel_rfl) (by kernel_rfl) (by kernel_rfl) (by kernel_rfl) (fun _ _ _ h=>hQp _ _ _ _ _ h) rfl (run_idxB rfl rfl rfl (by omega)) ?_
     simp only [PA]
     refine anyT_here (i:=3) (.int .u32 ((sh:Nat):Int)) rfl (by kernel_rfl) (by kernel_rfl) (by kernel_rfl) (by kernel_rfl) (fun _ _ _ h=>hQp _ _ _ _ _ h) rfl (CT (run_loadB rfl rfl (H.at_ _ (MI (i:=1) rfl)) (by first | omega | (have:=hW.1; omega))) (vnat hgs)) ?_
     simp only [PA]
     refine anyT_here (i:=4) (E (some ad) n c) rfl (by kernel_rfl) (by kernel_rfl) (by kernel_rfl) (by kernel_rfl) (fun _ _ _ h=>hQp _ _ _ _ _ h) rfl rfl ?_
     simp only [PA]
     refine anyT_here (i:=5) (I ((i:Nat):Int)) rfl (by kernel_rfl) (by kernel_rfl) (by kernel_rfl) (by kernel_rfl) (fun _ _ _ h=>hQp _ _ _ _ _ h) rfl rfl ?_
     simp only [PA]
     obtain ⟨q,af⟩:∃ z,i=z+1:=⟨i - 1,by omega⟩
     refine anyT_here (i:=6) (I ((q:Nat):Int)) rfl (by kernel_rfl) (by kernel_rfl) (by kernel_rfl) (by kernel_rfl) (fun _ _ _ h=>hQp _ _ _ _ _ h) rfl (CT (run_bin (I ((i:Nat):Int)) (I 1) _ rfl rfl rfl (bin_sub_3 _ _ _ _)) (vint (by rw [IntKind.wrap_i64]; omega))) ?_
     simp only [PA]
     refine anyT_here (i:=7) (.pointer (some (ad.add q))) rfl (by kernel_rfl) (by kernel_rfl) (by kernel_rfl) (by kernel_rfl) (fun _ _ _ h=>hQp _ _ _ _ _ h) rfl (run_idx (t:=36) rfl rfl rfl (by omega)) ?_
     simp only [PA]
     obtain ⟨bp,hbp⟩:∃ z:Nat,(dg x).getD q 0=z:=⟨_,rfl⟩
     refine anyT_here (i:=8) (.int .u32 ((bp:Nat):Int)) rfl (by kernel_rfl) (by kernel_rfl) (by kernel_rfl) (by kernel_rfl) (fun _ _ _ h=>hQp _ _ _ _ _ h) rfl (CT (run_loadW _ rfl rfl ((hx.below H.bl).cellA (by first | omega)) (ag100 _)) (vnat hbp)) ?_
     simp only [PA]
     refine anyT_here (i:=9) (J ((s:Nat):Int)) rfl (by kernel_rfl) (by kernel_rfl) (by kernel_rfl) (by kernel_rfl) (fun _ _ _ h=>hQp _ _ _ _ _ h) rfl rfl ?_
     simp only [PA]
     refine anyT_here (i:=10) (J ((32 - s:Nat):Int)) rfl (by kernel_rfl) (by kernel_rfl) (by kernel_rfl) (by kernel_rfl) (fun _ _ _ h=>hQp _ _ _ _ _ h) rfl (CT (run_bin (J 32) (J ((s:Nat):Int)) _ rfl rfl rfl (bin_sub_106 _ _ _ _)) (vint (w_sub (m:=32) (n:=s) (by omega) (by omega)))) ?_
     simp only [PA]
     obtain ⟨cp,hcp⟩:∃ z:Nat,bp / 2 ^ (32 - s)=z:=⟨_,rfl⟩
     have hcr:=cr_i (s:=s) af hbp hcp
     have hor:=or_cr (i:=i) r (dg_dig x) haiB
     rw [hcr,hsh] at hor
     refine anyT_here (i:=11) (.int .u32 ((cp:Nat):Int)) rfl (by kernel_rfl) (by kernel_rfl) (by kernel_rfl) (by kernel_rfl) (fun _ _ _ h=>hQp _ _ _ _ _ h) rfl (CT (run_bin (.int .u32 ((bp:Nat):Int)) (J ((32 - s:Nat):Int)) _ rfl rfl rfl (bin_shr_100_u64 _ _ _ _)) ((vint w_shr_s32).trans (vnat (by rw [X]; exact hcp)))) ?_
     simp only [PA]
     obtain ⟨vv,ag⟩:∃ z:Nat,sh+cp=z:=⟨_,rfl⟩
     refine anyT_here (i:=12) (.int .u32 ((vv:Nat):Int)) rfl (by kernel_rfl) (by kernel_rfl) (by kernel_rfl) (by kernel_rfl) (fun _ _ _ h=>hQp _ _ _ _ _ h) rfl (CT (run_bin (.int .u32 ((sh:Nat):Int)) (.int .u32 ((cp:Nat):Int)) _ rfl rfl rfl (bin_or_100 _ _ _ _)) ((vint (bits_or32 (by omega) (by omega))).trans (vnat (hor.1.trans ag)))) ?_
     simp only [PA]
     refine anyT_here (i:=13) (.pointer (some ⟨l,i,none⟩)) rfl (by kernel_rfl) (by kernel_rfl) (by kernel_rfl) (by kernel_rfl) (fun _ _ _ h=>hQp _ _ _ _ _ h) rfl (run_idxB rfl rfl rfl (by omega)) ?_
     simp only [PA]
     refine anyT_one (i:=14) rfl (by kernel_rfl) rfl fun K hK=>o_stB 1 (vv) ([⟨o,wc (vl),100⟩,⟨l,wc (((p).set (i) (vv))),100⟩]) rfl rfl rfl H rfl (by first | omega | (have:=hW.1; omega)) rfl fun aF ah=>hK _ _ (fun h=>absurd h (by decide)) ?_
     simp only [PA]
     refine anyT_done (by kernel_rfl) ?_ _
     refine D _ _ ?_
     refine wp_region_lit ?_
     have aj:=(hW.2 vv)▸ah
     refine PV (I ((i+1:Nat):Int)) (CT (run_bin (I ((i:Nat):Int)) (I 1) _ rfl rfl rfl (bin_add_3 _ _ _ _)) (vint (i_add (m:=i) (n:=1) (by omega)))) rfl ?_
     simp only [PA]
     refine PV (I ((i+1:Nat):Int)) rfl rfl ?_
     simp only [PA]
     refine wpList_nil ?_
     exact ⟨n1 - (i+1),by omega,i+1,ul.set i vv,[I ((i:Nat):Int),T true,I ((i:Nat):Int),(GD f 0),(GD f 1),(GD f 2),(GD f 3),(GD f 4),(GD f 5),(GD f 6),(GD f 7),(GD f 8),(GD f 9),(GD f 10),(GD f 11),(GD f 12),I ((i:Nat):Int),T true,T true,J ((s:Nat):Int),T true,T true,E (some ⟨l,0,none⟩) n1 n1,I ((i:Nat):Int),.pointer (some ⟨l,i,none⟩),.int .u32 ((sh:Nat):Int),E (some ad) n c,I ((i:Nat):Int),I ((q:Nat):Int),.pointer (some (ad.add q)),.int .u32 ((bp:Nat):Int),J ((s:Nat):Int),J ((32 - s:Nat):Int),.int .u32 ((cp:Nat):Int),.int .u32 ((vv:Nat):Int),.pointer (some ⟨l,i,none⟩),I ((i+1:Nat):Int)],rfl,aj,by omega,hU.next r (dg_dig _) (by omega) hai (by rw [hcr]; omega),fun j hj=>by rw [getD_set,if_neg (by omega)]; exact hUz j (by omega),rfl⟩
    ·skip
     refine wpList_on (by kernel_rfl) fun K hK=>o_val (T false) (CT (run_bin (J ((s:Nat):Int)) (J 0) _ rfl rfl rfl (bin_gtr_106 _ _ _ _)) (congrArg Value.bool (decide_eq_false hs0_))) (hK _ _ ?_)
     simp only [PA]
     refine PV (T false) rfl rfl ?_
     simp only [PA]
     refine wpList_nil ?_
     refine G _ _ ?_
     refine cond_false rfl ?_
     refine wp_skip ?_
     refine D _ _ ?_
     refine wp_region_lit ?_
     have al:=(show p=ul.set i sh from by rw [← hW.2 sh]; exact set_self hgs)▸F
     refine PV (I ((i+1:Nat):Int)) (CT (run_bin (I ((i:Nat):Int)) (I 1) _ rfl rfl rfl (bin_add_3 _ _ _ _)) (vint (i_add (m:=i) (n:=1) (by omega)))) rfl ?_
     simp only [PA]
     refine PV (I ((i+1:Nat):Int)) rfl rfl ?_
     simp only [PA]
     refine wpList_nil ?_
     exact ⟨n1 - (i+1),by omega,i+1,ul.set i sh,[I ((i:Nat):Int),T true,I ((i:Nat):Int),(GD f 0),(GD f 1),(GD f 2),(GD f 3),(GD f 4),(GD f 5),(GD f 6),(GD f 7),(GD f 8),(GD f 9),(GD f 10),(GD f 11),(GD f 12),I ((i:Nat):Int),T true,T true,J ((s:Nat):Int),T false,T false,(GD e 22),(GD e 23),(GD e 24),(GD e 25),(GD e 26),(GD e 27),(GD e 28),(GD e 29),(GD e 30),(GD e 31),(GD e 32),(GD e 33),(GD e 34),(GD e 35),I ((i+1:Nat):Int)],rfl,al,by omega,hU.next r (dg_dig _) (by omega) hai (by first | (rw [cr_0 C]; omega) | (rw [cr_s0 (dg_dig _) (by omega)]; omega)),fun j hj=>by rw [getD_set,if_neg (by omega)]; exact hUz j (by omega),rfl⟩
   ·skip
    refine PV (T false) (CT (run_bin (I ((i:Nat):Int)) (I 0) _ rfl rfl rfl (bin_gtr_3 _ _ _ _)) (congrArg Value.bool (decide_eq_false C))) rfl ?_
    simp only [PA]
    refine PV (T false) rfl rfl ?_
    simp only [PA]
    with_reducible refine wpList_off ?_ ?_
    ·with_reducible exact wanted_off rfl rfl rfl
    simp only [PA]
    with_reducible refine wpList_off ?_ ?_
    ·with_reducible exact wanted_off rfl rfl rfl
    simp only [PA]
    refine PV (T false) rfl rfl ?_
    simp only [PA]
    refine wpList_nil ?_
    refine G _ _ ?_
    refine cond_false rfl ?_
    refine wp_skip ?_
    refine D _ _ ?_
    refine wp_region_lit ?_
    have am:=(show p=ul.set i sh from by rw [← hW.2 sh]; exact set_self hgs)▸F
    refine PV (I ((i+1:Nat):Int)) (CT (run_bin (I ((i:Nat):Int)) (I 1) _ rfl rfl rfl (bin_add_3 _ _ _ _)) (vint (i_add (m:=i) (n:=1) (by omega)))) rfl ?_
    simp only [PA]
    refine PV (I ((i+1:Nat):Int)) rfl rfl ?_
    simp only [PA]
    refine wpList_nil ?_
    exact ⟨n1 - (i+1),by omega,i+1,ul.set i sh,[I ((i:Nat):Int),T true,I ((i:Nat):Int),(GD f 0),(GD f 1),(GD f 2),(GD f 3),(GD f 4),(GD f 5),(GD f 6),(GD f 7),(GD f 8),(GD f 9),(GD f 10),(GD f 11),(GD f 12),I ((i:Nat):Int),T false,T false,O,O,T false,(GD e 22),(GD e 23),(GD e 24),(GD e 25),(GD e 26),(GD e 27),(GD e 28),(GD e 29),(GD e 30),(GD e 31),(GD e 32),(GD e 33),(GD e 34),(GD e 35),I ((i+1:Nat):Int)],rfl,am,by omega,hU.next r (dg_dig _) (by omega) hai (by first | (rw [cr_0 C]; omega) | (rw [cr_s0 (dg_dig _) (by omega)]; omega)),fun j hj=>by rw [getD_set,if_neg (by omega)]; exact hUz j (by omega),rfl⟩
 ·skip
  refine PV (T false) (CT (run_bin (I ((i:Nat):Int)) (I (n1:Int)) _ rfl rfl rfl (bin_lss_3 _ _ _ _)) (congrArg Value.bool (decide_eq_false P))) rfl ?_
  simp only [PA]
  refine wpList_nil ?_
  refine N _ _ ?_
  refine wp_seq_k fun aG aH=>?_
  refine cond_false rfl ?_
  refine wp_exit ?_
  exact ⟨ul,[(GD e 0),I ((i:Nat):Int),T false,(GD e 2),(GD e 3),(GD e 4),(GD e 5),(GD e 6),(GD e 7),(GD e 8),(GD e 9),(GD e 10),(GD e 11),(GD e 12),(GD e 13),(GD e 14),(GD e 15),(GD e 16),(GD e 17),(GD e 18),(GD e 19),(GD e 20),(GD e 21),(GD e 22),(GD e 23),(GD e 24),(GD e 25),(GD e 26),(GD e 27),(GD e 28),(GD e 29),(GD e 30),(GD e 31),(GD e 32),(GD e 33),(GD e 34),(GD e 35),(GD e 36)],rfl,A,hU.1,hU.2.1,by have V:=hU.2.2; rw [show i=n+1 by omega] at V; rw [cr_end (n:=n) (by have:=hU.1; omega) hxl V,val_dg],trivial⟩
end Go.Proofs.Ythhgjloephkpaaa
namespace Go.Proofs.Ythhgjloephkpaaa
set_option linter.unusedVariables false
set_option linter.unusedSimpArgs false
open Go Go.RowKit Go.Proofs.YthhgjloephkpaaaW.PrintWords Go.Proofs.YthhgjloephkpaaaW.PrintLast
set_option maxRecDepth 100000 in
set_option maxHeartbeats 8000000 in
theorem qc_guess {ad bd:Addr} {n n1 k c d x y kk k2 nk M yt s:Nat} {w:World} (hx:Wds w (some ad) n c (dg x)) (hy:Wds w (some bd) k d (dg y)) (hk:2≤k) (hkn:k≤n) (hnm:n≤1000000000) (hkk:kk+1=k) (ay:k2+2=k) (az:n1=n+1) (hnk:nk+k=n) (hM:M=nk+1) (hxl:(dg x).length=n) (hyl:(dg y).length=k) (aA:s≤31) (aC:min s 32=s) (aD:min (32 - s) 32=32 - s) {vl:List Nat} (hvlen:vl.length=k) (hvD:Dig vl) (hYl:BW ^ (k - 1) * 2 ^ 31≤val vl) (hYBv:val vl<BW ^ k) {L V C l D hd P:Nat} {pre wl post outs:List Nat} (hwl:wl.length=k+1) (hwD:Dig wl) (aF:wl.getD k 0=L) (am:wl.getD k2 0=C) (ae:vl.getD kk 0=l) (an:vl.getD k2 0=D) (aG:L<BW) (af:C<BW) (ag:l<BW) (ah:D<BW) (ao:2147483648≤l) (G:Guess (val wl) (val vl) hd l D C P) (htM:pre.length+1≤M) {N R:Nat} (ap:hd / l=N) (hqr:N * l+R=hd) (aH:R<l) {F p A ab:Nat} {e g f:List Value} {W:World} (aq:St w W [⟨F,wc (outs),100⟩,⟨p,wc (vl),100⟩,⟨A,wc (pre++wl++post),100⟩]) {Q:Exit→Act→World→Prop} (hQp:∀ c (a:Act) d v w,Q (.panic c) (a.put d v) w→Q (.panic c) a w) :
  (pL (pR (pR (pB (pL (pR (pB (pB (pR (pL (pR (pR (pR (pR (pR (pR (pR (pR (pR (pR (pF Try.f117))))))))))))))))))))).wp Try.prog (Exit.then (fun aa_ w'=>∃ (q:Nat) (t:List Value),aa_=⟨#[E (some ad) n c,E (some bd) k d,O,O,E none 0 0,E none 0 0,O,O,O,O,J ((s:Nat):Int),E (some ⟨A,0,none⟩) n1 n1,E (some ⟨p,0,none⟩) k k,(GD g 0),(GD f 0),I (k:Int),E (some ⟨F,0,none⟩) M M,I ((((pre.length+1):Nat):Int) - 1),J ((hd:Nat):Int),J ((q:Nat):Int),(GD t 0),(GD e 3),(GD e 4),(GD e 5),(GD e 6),(GD e 7),(GD e 8),(GD e 9),(GD e 10),(GD e 11),O,O,E (some ad) n c,E (some bd) k d,I (cmpN (x) (y)),T false,O,O,E (some bd) k d,I (k:Int),T false,O,O,O,O,O,O,O,O,O,O,O,O,O,O,O,O,O,O,O,O,O,O,O,O,O,O,O,O,O,O,O,O,O,O,O,O,O,O,E (some bd) k d,E (some bd) k d,I (k:Int),I ((kk:Nat):Int),.pointer (some (bd.add kk)),.int .u32 ((yt:Nat):Int),I ((s:Nat):Int),J ((s:Nat):Int),E (some ad) n c,I (n:Int),I ((n1:Nat):Int),E (some ⟨A,0,none⟩) n1 n1,E (some bd) k d,I (k:Int),E (some ⟨p,0,none⟩) k k,E (some bd) k d,I (k:Int),(GD g 1),(GD g 2),(GD g 3),(GD g 4),(GD g 5),(GD g 6),(GD g 7),(GD g 8),(GD g 9),(GD g 10),(GD g 11),(GD g 12),(GD g 13),(GD g 14),(GD g 15),(GD g 16),(GD g 17),(GD g 18),(GD g 19),(GD g 20),(GD g 21),(GD g 22),(GD g 23),(GD g 24),(GD g 25),(GD g 26),(GD g 27),(GD g 28),(GD g 29),(GD g 30),(GD g 31),(GD g 32),(GD g 33),E (some ⟨A,0,none⟩) n1 n1,I (n1:Int),(GD f 1),(GD f 2),(GD f 3),(GD f 4),(GD f 5),(GD f 6),(GD f 7),(GD f 8),(GD f 9),(GD f 10),(GD f 11),(GD f 12),(GD f 13),(GD f 14),(GD f 15),(GD f 16),(GD f 17),(GD f 18),(GD f 19),(GD f 20),(GD f 21),(GD f 22),(GD f 23),(GD f 24),(GD f 25),(GD f 26),(GD f 27),(GD f 28),(GD f 29),(GD f 30),(GD f 31),(GD f 32),(GD f 33),(GD f 34),(GD f 35),(GD f 36),(GD f 37),E (some ⟨p,0,none⟩) k k,I (k:Int),E (some ad) n c,I (n:Int),I (k:Int),I ((nk:Nat):Int),I ((M:Nat):Int),E (some ⟨F,0,none⟩) M M,E (some ad) n c,I (n:Int),I (k:Int),I (((M:Nat):Int) - 1),I ((((pre.length+1):Nat):Int) - 1),T true,(GD e 14),(GD e 15),E (some ⟨A,0,none⟩) n1 n1,I ((pre.length:Nat):Int),I (k:Int),I ((pre.length+k:Nat):Int),.pointer (some ⟨A,(pre.length+k),none⟩),.int .u32 ((L:Nat):Int),J ((L:Nat):Int),J ((ab:Nat):Int),E (some ⟨A,0,none⟩) n1 n1,I ((pre.length:Nat):Int),I (k:Int),I ((pre.length+k:Nat):Int),I ((pre.length+kk:Nat):Int),.pointer (some ⟨A,(pre.length+kk),none⟩),.int .u32 ((V:Nat):Int),J ((V:Nat):Int),J ((hd:Nat):Int),J ((hd:Nat):Int),E (some ⟨p,0,none⟩) k k,I (k:Int),I ((kk:Nat):Int),.pointer (some ⟨p,kk,none⟩),.int .u32 ((l:Nat):Int),J ((l:Nat):Int),J ((N:Nat):Int),J ((hd:Nat):Int),E (some ⟨p,0,none⟩) k k,I (k:Int),I ((kk:Nat):Int),.pointer (some ⟨p,kk,none⟩),.int .u32 ((l:Nat):Int),J ((l:Nat):Int),J ((R:Nat):Int),(GD t 1),(GD t 2),(GD t 3),(GD t 4),(GD t 5),(GD t 6),(GD t 7),(GD t 8),(GD t 9),(GD t 10),(GD t 11),(GD t 12),(GD t 13),(GD t 14),(GD t 15),(GD t 16),(GD t 17),(GD t 18),(GD t 19),(GD t 20),(GD t 21),(GD t 22),(GD t 23),(GD t 24),(GD t 25),(GD t 26),(GD t 27),(GD t 28),(GD t 29),(GD t 30),(GD t 31),(GD t 32),(GD t 33),(GD t 34),(GD t 35),(GD t 36),(GD e 85),(GD e 86),(GD e 87),(GD e 88),(GD e 89),(GD e 90),(GD e 91),(GD e 92),(GD e 93),(GD e 94),(GD e 95),(GD e 96),(GD e 97),(GD e 98),(GD e 99),(GD e 100),(GD e 101),(GD e 102),(GD e 103),(GD e 104),(GD e 105),(GD e 106),(GD e 107),(GD e 108),(GD e 109),(GD e 110),(GD e 111),(GD e 112),(GD e 113),(GD e 114),(GD e 115),(GD e 116),(GD e 117),(GD e 118),(GD e 119),(GD e 120),(GD e 121),(GD e 122),(GD e 123),(GD e 124),(GD e 125),(GD e 126),(GD e 127),(GD e 128),(GD e 129),(GD e 130),(GD e 131),(GD e 132),(GD e 133),(GD e 134),(GD e 135),(GD e 136),(GD e 137),(GD e 138),(GD e 139),(GD e 140),(GD e 141),(GD e 142),(GD e 143),(GD e 144),(GD e 145),(GD e 146),(GD e 147),(GD e 148),(GD e 149),(GD e 150),(GD e 151),(GD e 152),(GD e 153),(GD e 154),(GD e 155),(GD e 156),(GD e 157),(GD e 158),(GD e 159),(GD e 160),(GD e 161),(GD e 162),(GD e 163),(GD e 164),(GD e 165),(GD e 166),(GD e 167),(GD e 168),(GD e 169),(GD e 170),(GD e 171),(GD e 172),(GD e 173),(GD e 174),(GD e 175),(GD e 176),(GD e 177),(GD e 178),(GD e 179),(GD e 180),(GD e 181),(GD e 182),(GD e 183),(GD e 184),(GD e 185),(GD e 186),(GD e 187),(GD e 188),(GD e 189),O,O,O,O,O,O,O,O,O,O,O,O,O,O,O,O,O,O,O,O,O,O,O,O,O,O,O,O,O,O,O,O,O,O],[]⟩∧St w w' [⟨F,wc (outs),100⟩,⟨p,wc (vl),100⟩,⟨A,wc (pre++wl++post),100⟩]∧(q<BW∧val wl / val vl≤q∧q≤val wl / val vl+1)∧U W w') Q) ⟨#[E (some ad) n c,E (some bd) k d,O,O,E none 0 0,E none 0 0,O,O,O,O,J ((s:Nat):Int),E (some ⟨A,0,none⟩) n1 n1,E (some ⟨p,0,none⟩) k k,(GD g 0),(GD f 0),I (k:Int),E (some ⟨F,0,none⟩) M M,I ((((pre.length+1):Nat):Int) - 1),J ((hd:Nat):Int),J ((N:Nat):Int),J ((R:Nat):Int),(GD e 3),(GD e 4),(GD e 5),(GD e 6),(GD e 7),(GD e 8),(GD e 9),(GD e 10),(GD e 11),O,O,E (some ad) n c,E (some bd) k d,I (cmpN (x) (y)),T false,O,O,E (some bd) k d,I (k:Int),T false,O,O,O,O,O,O,O,O,O,O,O,O,O,O,O,O,O,O,O,O,O,O,O,O,O,O,O,O,O,O,O,O,O,O,O,O,O,O,E (some bd) k d,E (some bd) k d,I (k:Int),I ((kk:Nat):Int),.pointer (some (bd.add kk)),.int .u32 ((yt:Nat):Int),I ((s:Nat):Int),J ((s:Nat):Int),E (some ad) n c,I (n:Int),I ((n1:Nat):Int),E (some ⟨A,0,none⟩) n1 n1,E (some bd) k d,I (k:Int),E (some ⟨p,0,none⟩) k k,E (some bd) k d,I (k:Int),(GD g 1),(GD g 2),(GD g 3),(GD g 4),(GD g 5),(GD g 6),(GD g 7),(GD g 8),(GD g 9),(GD g 10),(GD g 11),(GD g 12),(GD g 13),(GD g 14),(GD g 15),(GD g 16),(GD g 17),(GD g 18),(GD g 19),(GD g 20),(GD g 21),(GD g 22),(GD g 23),(GD g 24),(GD g 25),(GD g 26),(GD g 27),(GD g 28),(GD g 29),(GD g 30),(GD g 31),(GD g 32),(GD g 33),E (some ⟨A,0,none⟩) n1 n1,I (n1:Int),(GD f 1),(GD f 2),(GD f 3),(GD f 4),(GD f 5),(GD f 6),(GD f 7),(GD f 8),(GD f 9),(GD f 10),(GD f 11),(GD f 12),(GD f 13),(GD f 14),(GD f 15),(GD f 16),(GD f 17),(GD f 18),(GD f 19),(GD f 20),(GD f 21),(GD f 22),(GD f 23),(GD f 24),(GD f 25),(GD f 26),(GD f 27),(GD f 28),(GD f 29),(GD f 30),(GD f 31),(GD f 32),(GD f 33),(GD f 34),(GD f 35),(GD f 36),(GD f 37),E (some ⟨p,0,none⟩) k k,I (k:Int),E (some ad) n c,I (n:Int),I (k:Int),I ((nk:Nat):Int),I ((M:Nat):Int),E (some ⟨F,0,none⟩) M M,E (some ad) n c,I (n:Int),I (k:Int),I (((M:Nat):Int) - 1),I ((((pre.length+1):Nat):Int) - 1),T true,(GD e 14),(GD e 15),E (some ⟨A,0,none⟩) n1 n1,I ((pre.length:Nat):Int),I (k:Int),I ((pre.length+k:Nat):Int),.pointer (some ⟨A,(pre.length+k),none⟩),.int .u32 ((L:Nat):Int),J ((L:Nat):Int),J ((ab:Nat):Int),E (some ⟨A,0,none⟩) n1 n1,I ((pre.length:Nat):Int),I (k:Int),I ((pre.length+k:Nat):Int),I ((pre.length+kk:Nat):Int),.pointer (some ⟨A,(pre.length+kk),none⟩),.int .u32 ((V:Nat):Int),J ((V:Nat):Int),J ((hd:Nat):Int),J ((hd:Nat):Int),E (some ⟨p,0,none⟩) k k,I (k:Int),I ((kk:Nat):Int),.pointer (some ⟨p,kk,none⟩),.int .u32 ((l:Nat):Int),J ((l:Nat):Int),J ((N:Nat):Int),J ((hd:Nat):Int),E (some ⟨p,0,none⟩) k k,I (k:Int),I ((kk:Nat):Int),.pointer (some ⟨p,kk,none⟩),.int .u32 ((l:Nat):Int),J ((l:Nat):Int),J ((R:Nat):Int),(GD e 49),(GD e 50),(GD e 51),(GD e 52),(GD e 53),(GD e 54),(GD e 55),(GD e 56),(GD e 57),(GD e 58),(GD e 59),(GD e 60),(GD e 61),(GD e 62),(GD e 63),(GD e 64),(GD e 65),(GD e 66),(GD e 67),(GD e 68),(GD e 69),(GD e 70),(GD e 71),(GD e 72),(GD e 73),(GD e 74),(GD e 75),(GD e 76),(GD e 77),(GD e 78),(GD e 79),(GD e 80),(GD e 81),(GD e 82),(GD e 83),(GD e 84),(GD e 85),(GD e 86),(GD e 87),(GD e 88),(GD e 89),(GD e 90),(GD e 91),(GD e 92),(GD e 93),(GD e 94),(GD e 95),(GD e 96),(GD e 97),(GD e 98),(GD e 99),(GD e 100),(GD e 101),(GD e 102),(GD e 103),(GD e 104),(GD e 105),(GD e 106),(GD e 107),(GD e 108),(GD e 109),(GD e 110),(GD e 111),(GD e 112),(GD e 113),(GD e 114),(GD e 115),(GD e 116),(GD e 117),(GD e 118),(GD e 119),(GD e 120),(GD e 121),(GD e 122),(GD e 123),(GD e 124),(GD e 125),(GD e 126),(GD e 127),(GD e 128),(GD e 129),(GD e 130),(GD e 131),(GD e 132),(GD e 133),(GD e 134),(GD e 135),(GD e 136),(GD e 137),(GD e 138),(GD e 139),(GD e 140),(GD e 141),(GD e 142),(GD e 143),(GD e 144),(GD e 145),(GD e 146),(GD e 147),(GD e 148),(GD e 149),(GD e 150),(GD e 151),(GD e 152),(GD e 153),(GD e 154),(GD e 155),(GD e 156),(GD e 157),(GD e 158),(GD e 159),(GD e 160),(GD e 161),(GD e 162),(GD e 163),(GD e 164),(GD e 165),(GD e 166),(GD e 167),(GD e 168),(GD e 169),(GD e 170),(GD e 171),(GD e 172),(GD e 173),(GD e 174),(GD e 175),(GD e 176),(GD e 177),(GD e 178),(GD e 179),(GD e 180),(GD e 181),(GD e 182),(GD e 183),(GD e 184),(GD e 185),(GD e 186),(GD e 187),(GD e 188),(GD e 189),O,O,O,O,O,O,O,O,O,O,O,O,O,O,O,O,O,O,O,O,O,O,O,O,O,O,O,O,O,O,O,O,O,O],[]⟩ W:=by
 show (Code.block 8 _).wp _ _ _ _
 refine wp_block ?_
 refine wp_loop_g (fun mm aa_ w'=>∃ (q:Nat) (r:Nat) (o:List Value),aa_=⟨#[E (some ad) n c,E (some bd) k d,O,O,E none 0 0,E none 0 0,O,O,O,O,J ((s:Nat):Int),E (some ⟨A,0,none⟩) n1 n1,E (some ⟨p,0,none⟩) k k,(GD g 0),(GD f 0),I (k:Int),E (some ⟨F,0,none⟩) M M,I ((((pre.length+1):Nat):Int) - 1),J ((hd:Nat):Int),J ((q:Nat):Int),J ((r:Nat):Int),(GD e 3),(GD e 4),(GD e 5),(GD e 6),(GD e 7),(GD e 8),(GD e 9),(GD e 10),(GD e 11),O,O,E (some ad) n c,E (some bd) k d,I (cmpN (x) (y)),T false,O,O,E (some bd) k d,I (k:Int),T false,O,O,O,O,O,O,O,O,O,O,O,O,O,O,O,O,O,O,O,O,O,O,O,O,O,O,O,O,O,O,O,O,O,O,O,O,O,O,E (some bd) k d,E (some bd) k d,I (k:Int),I ((kk:Nat):Int),.pointer (some (bd.add kk)),.int .u32 ((yt:Nat):Int),I ((s:Nat):Int),J ((s:Nat):Int),E (some ad) n c,I (n:Int),I ((n1:Nat):Int),E (some ⟨A,0,none⟩) n1 n1,E (some bd) k d,I (k:Int),E (some ⟨p,0,none⟩) k k,E (some bd) k d,I (k:Int),(GD g 1),(GD g 2),(GD g 3),(GD g 4),(GD g 5),(GD g 6),(GD g 7),(GD g 8),(GD g 9),(GD g 10),(GD g 11),(GD g 12),(GD g 13),(GD g 14),(GD g 15),(GD g 16),(GD g 17),(GD g 18),(GD g 19),(GD g 20),(GD g 21),(GD g 22),(GD g 23),(GD g 24),(GD g 25),(GD g 26),(GD g 27),(GD g 28),(GD g 29),(GD g 30),(GD g 31),(GD g 32),(GD g 33),E (some ⟨A,0,none⟩) n1 n1,I (n1:Int),(GD f 1),(GD f 2),(GD f 3),(GD f 4),(GD f 5),(GD f 6),(GD f 7),(GD f 8),(GD f 9),(GD f 10),(GD f 11),(GD f 12),(GD f 13),(GD f 14),(GD f 15),(GD f 16),(GD f 17),(GD f 18),(GD f 19),(GD f 20),(GD f 21),(GD f 22),(GD f 23),(GD f 24),(GD f 25),(GD f 26),(GD f 27),(GD f 28),(GD f 29),(GD f 30),(GD f 31),(GD f 32),(GD f 33),(GD f 34),(GD f 35),(GD f 36),(GD f 37),E (some ⟨p,0,none⟩) k k,I (k:Int),E (some ad) n c,I (n:Int),I (k:Int),I ((nk:Nat):Int),I ((M:Nat):Int),E (some ⟨F,0,none⟩) M M,E (some ad) n c,I (n:Int),I (k:Int),I (((M:Nat):Int) - 1),I ((((pre.length+1):Nat):Int) - 1),T true,(GD e 14),(GD e 15),E (some ⟨A,0,none⟩) n1 n1,I ((pre.length:Nat):Int),I (k:Int),I ((pre.length+k:Nat):Int),.pointer (some ⟨A,(pre.length+k),none⟩),.int .u32 ((L:Nat):Int),J ((L:Nat):Int),J ((ab:Nat):Int),E (some ⟨A,0,none⟩) n1 n1,I ((pre.length:Nat):Int),I (k:Int),I ((pre.length+k:Nat):Int),I ((pre.length+kk:Nat):Int),.pointer (some ⟨A,(pre.length+kk),none⟩),.int .u32 ((V:Nat):Int),J ((V:Nat):Int),J ((hd:Nat):Int),J ((hd:Nat):Int),E (some ⟨p,0,none⟩) k k,I (k:Int),I ((kk:Nat):Int),.pointer (some ⟨p,kk,none⟩),.int .u32 ((l:Nat):Int),J ((l:Nat):Int),J ((N:Nat):Int),J ((hd:Nat):Int),E (some ⟨p,0,none⟩) k k,I (k:Int),I ((kk:Nat):Int),.pointer (some ⟨p,kk,none⟩),.int .u32 ((l:Nat):Int),J ((l:Nat):Int),J ((R:Nat):Int),(GD o 0),(GD o 1),(GD o 2),(GD o 3),(GD o 4),(GD o 5),(GD o 6),(GD o 7),(GD o 8),(GD o 9),(GD o 10),(GD o 11),(GD o 12),(GD o 13),(GD o 14),(GD o 15),(GD o 16),(GD o 17),(GD o 18),(GD o 19),(GD o 20),(GD o 21),(GD o 22),(GD o 23),(GD o 24),(GD o 25),(GD o 26),(GD o 27),(GD o 28),(GD o 29),(GD o 30),(GD o 31),(GD o 32),(GD o 33),(GD o 34),(GD o 35),(GD e 85),(GD e 86),(GD e 87),(GD e 88),(GD e 89),(GD e 90),(GD e 91),(GD e 92),(GD e 93),(GD e 94),(GD e 95),(GD e 96),(GD e 97),(GD e 98),(GD e 99),(GD e 100),(GD e 101),(GD e 102),(GD e 103),(GD e 104),(GD e 105),(GD e 106),(GD e 107),(GD e 108),(GD e 109),(GD e 110),(GD e 111),(GD e 112),(GD e 113),(GD e 114),(GD e 115),(GD e 116),(GD e 117),(GD e 118),(GD e 119),(GD e 120),(GD e 121),(GD e 122),(GD e 123),(GD e 124),(GD e 125),(GD e 126),(GD e 127),(GD e 128),(GD e 129),(GD e 130),(GD e 131),(GD e 132),(GD e 133),(GD e 134),(GD e 135),(GD e 136),(GD e 137),(GD e 138),(GD e 139),(GD e 140),(GD e 141),(GD e 142),(GD e 143),(GD e 144),(GD e 145),(GD e 146),(GD e 147),(GD e 148),(GD e 149),(GD e 150),(GD e 151),(GD e 152),(GD e 153),(GD e 154),(GD e 155),(GD e 156),(GD e 157),(GD e 158),(GD e 159),(GD e 160),(GD e 161),(GD e 162),(GD e 163),(GD e 164),(GD e 165),(GD e 166),(GD e 167),(GD e 168),(GD e 169),(GD e 170),(GD e 171),(GD e 172),(GD e 173),(GD e 174),(GD e 175),(GD e 176),(GD e 177),(GD e 178),(GD e 179),(GD e 180),(GD e 181),(GD e 182),(GD e 183),(GD e 184),(GD e 185),(GD e 186),(GD e 187),(GD e 188),(GD e 189),O,O,O,O,O,O,O,O,O,O,O,O,O,O,O,O,O,O,O,O,O,O,O,O,O,O,O,O,O,O,O,O,O,O],[]⟩∧St w w' [⟨F,wc (outs),100⟩,⟨p,wc (vl),100⟩,⟨A,wc (pre++wl++post),100⟩]∧(q * l+r=hd∧val wl / val vl≤q)∧(r<BW)∧U W w'∧q=mm) (N) ⟨N,R,[(GD e 49),(GD e 50),(GD e 51),(GD e 52),(GD e 53),(GD e 54),(GD e 55),(GD e 56),(GD e 57),(GD e 58),(GD e 59),(GD e 60),(GD e 61),(GD e 62),(GD e 63),(GD e 64),(GD e 65),(GD e 66),(GD e 67),(GD e 68),(GD e 69),(GD e 70),(GD e 71),(GD e 72),(GD e 73),(GD e 74),(GD e 75),(GD e 76),(GD e 77),(GD e 78),(GD e 79),(GD e 80),(GD e 81),(GD e 82),(GD e 83),(GD e 84)],rfl,aq,⟨hqr,by rw [← ap]; exact G.first.1⟩,by omega,U.refl W,rfl⟩ ?_
 rintro _ _ aK ⟨q,r,o,rfl,ar,hq,hrB,X,rfl⟩
 have hqle:=G.q_le ao hq.1
 refine wp_seq_k fun aL ai=>?_
 refine wp_seq_k fun aM ac=>?_
 refine region_drawnP 24 (fun j=>decide (24≤j)) (by kernel_rfl) rfl ar fun aN H Y=>?_
 refine anyT_here (i:=0) (J ((q:Nat):Int)) rfl (by kernel_rfl) (by kernel_rfl) (by kernel_rfl) (by kernel_rfl) (fun _ _ _ h=>hQp _ _ _ _ _ h) rfl rfl ?_
 simp only [PA]
 by_cases hqB:(4294967296:Int)≤((q:Nat):Int)
 ·skip
  refine anyT_here (i:=1) (T true) rfl (by kernel_rfl) (by kernel_rfl) (by kernel_rfl) (by kernel_rfl) (fun _ _ _ h=>hQp _ _ _ _ _ h) rfl (CT (run_bin (J ((q:Nat):Int)) (J 4294967296) _ rfl rfl rfl (bin_geq_104 _ _ _ _)) (congrArg Value.bool (decide_eq_true hqB))) ?_
  simp only [PA]
  refine anyT_here (i:=2) (T true) rfl (by kernel_rfl) (by kernel_rfl) (by kernel_rfl) (by kernel_rfl) (fun _ _ _ h=>hQp _ _ _ _ _ h) rfl rfl ?_
  simp only [PA]
  refine anyT_off (i:=3) rfl (by kernel_rfl) (by kernel_rfl) (by kernel_rfl) (by kernel_rfl) (fun _ _ _ h=>hQp _ _ _ _ _ h) rfl ?_
  simp only [PA]
  refine anyT_off (i:=4) rfl (by kernel_rfl) (by kernel_rfl) (by kernel_rfl) (by kernel_rfl) (fun _ _ _ h=>hQp _ _ _ _ _ h) rfl ?_
  simp only [PA]
  refine anyT_off (i:=5) rfl (by kernel_rfl) (by kernel_rfl) (by kernel_rfl) (by kernel_rfl) (fun _ _ _ h=>hQp _ _ _ _ _ h) rfl ?_
  simp only [PA]
  refine anyT_off (i:=6) rfl (by kernel_rfl) (by kernel_rfl) (by kernel_rfl) (by kernel_rfl) (fun _ _ _ h=>hQp _ _ _ _ _ h) rfl ?_
  simp only [PA]
  refine anyT_off (i:=7) rfl (by kernel_rfl) (by kernel_rfl) (by kernel_rfl) (by kernel_rfl) (fun _ _ _ h=>hQp _ _ _ _ _ h) rfl ?_
  simp only [PA]
  refine anyT_off (i:=8) rfl (by kernel_rfl) (by kernel_rfl) (by kernel_rfl) (by kernel_rfl) (fun _ _ _ h=>hQp _ _ _ _ _ h) rfl ?_
  simp only [PA]
  refine anyT_off (i:=9) rfl (by kernel_rfl) (by kernel_rfl) (by kernel_rfl) (by kernel_rfl) (fun _ _ _ h=>hQp _ _ _ _ _ h) rfl ?_
  simp only [PA]
  refine anyT_off (i:=10) rfl (by kernel_rfl) (by kernel_rfl) (by kernel_rfl) (by kernel_rfl) (fun _ _ _ h=>hQp _ _ _ _ _ h) rfl ?_
  simp only [PA]
  refine anyT_off (i:=11) rfl (by kernel_rfl) (by kernel_rfl) (by kernel_rfl) (by kernel_rfl) (fun _ _ _ h=>hQp _ _ _ _ _ h) rfl ?_
  simp only [PA]
  refine anyT_off (i:=12) rfl (by kernel_rfl) (by kernel_rfl) (by kernel_rfl) (by kernel_rfl) (fun _ _ _ h=>hQp _ _ _ _ _ h) rfl ?_
  simp only [PA]
  refine anyT_off (i:=13) rfl (by kernel_rfl) (by kernel_rfl) (by kernel_rfl) (by kernel_rfl) (fun _ _ _ h=>hQp _ _ _ _ _ h) rfl ?_
  simp only [PA]
  refine anyT_off (i:=14) rfl (by kernel_rfl) (by kernel_rfl) (by kernel_rfl) (by kernel_rfl) (fun _ _ _ h=>hQp _ _ _ _ _ h) rfl ?_
  simp only [PA]
  refine anyT_off (i:=15) rfl (by kernel_rfl) (by kernel_rfl) (by kernel_rfl) (by kernel_rfl) (fun _ _ _ h=>hQp _ _ _ _ _ h) rfl ?_
  simp only [PA]
  refine anyT_off (i:=16) rfl (by kernel_rfl) (by kernel_rfl) (by kernel_rfl) (by kernel_rfl) (fun _ _ _ h=>hQp _ _ _ _ _ h) rfl ?_
  simp only [PA]
  refine anyT_off (i:=17) rfl (by kernel_rfl) (by kernel_rfl) (by kernel_rfl) (by kernel_rfl) (fun _ _ _ h=>hQp _ _ _ _ _ h) rfl ?_
  simp only [PA]
  refine anyT_off (i:=18) rfl (by kernel_rfl) (by kernel_rfl) (by kernel_rfl) (by kernel_rfl) (fun _ _ _ h=>hQp _ _ _ _ _ h) rfl ?_
  simp only [PA]
  refine anyT_off (i:=19) rfl (by kernel_rfl) (by kernel_rfl) (by kernel_rfl) (by kernel_rfl) (fun _ _ _ h=>hQp _ _ _ _ _ h) rfl ?_
  simp only [PA]
  refine anyT_off (i:=20) rfl (by kernel_rfl) (by kernel_rfl) (by kernel_rfl) (by kernel_rfl) (fun _ _ _ h=>hQp _ _ _ _ _ h) rfl ?_
  simp only [PA]
  refine anyT_off (i:=21) rfl (by kernel_rfl) (by kernel_rfl) (by kernel_rfl) (by kernel_rfl) (fun _ _ _ h=>hQp _ _ _ _ _ h) rfl ?_
  simp only [PA]
  refine anyT_off (i:=22) rfl (by kernel_rfl) (by kernel_rfl) (by kernel_rfl) (by kernel_rfl) (fun _ _ _ h=>hQp _ _ _ _ _ h) rfl ?_
  simp only [PA]
  refine anyT_here (i:=23) (T true) rfl (by kernel_rfl) (by kernel_rfl) (by kernel_rfl) (by kernel_rfl) (fun _ _ _ h=>hQp _ _ _ _ _ h) rfl rfl ?_
  simp only [PA]
  refine anyT_done (by kernel_rfl) ?_ _
  refine ac _ _ ?_
  refine cond_true rfl ?_
  refine wp_skip ?_
  refine ai _ _ ?_
  refine wp_block ?_
  refine wp_seq_k fun aP au=>?_
  refine wp_region_lit ?_
  have hdn:val wl / val vl≤q - 1∧0<q:=by first | exact guess_big G (by rw [BW_eq]; omega) | exact G.down hq.1 hq.2 (by rw [hrb,hrs,hqv]; omega)
  refine PV (J ((q:Nat):Int)) rfl rfl ?_
  simp only [PA]
  refine PV (J ((q - 1:Nat):Int)) (CT (run_bin (J ((q:Nat):Int)) (J 1) _ rfl rfl rfl (bin_sub_104 _ _ _ _)) (vint (w_sub (m:=q) (n:=1) (by have:=hdn.2; omega) (by have:=hqle; rw [BW_eq] at this; omega)))) rfl ?_
  simp only [PA]
  refine PV (J ((q - 1:Nat):Int)) rfl rfl ?_
  simp only [PA]
  refine wpList_nil ?_
  refine au _ _ ?_
  refine wp_seq_k fun aQ av=>?_
  refine wp_region_lit ?_
  refine PV (J ((r:Nat):Int)) rfl rfl ?_
  simp only [PA]
  refine PV (E (some ⟨p,0,none⟩) k k) rfl rfl ?_
  simp only [PA]
  refine PV (I (k:Int)) rfl rfl ?_
  simp only [PA]
  refine PV (I ((kk:Nat):Int)) (CT (run_bin (I (k:Int)) (I 1) _ rfl rfl rfl (bin_sub_3 _ _ _ _)) (vint (by rw [IntKind.wrap_i64]; omega))) rfl ?_
  simp only [PA]
  refine PV (.pointer (some ⟨p,kk,none⟩)) (run_idxB rfl rfl rfl (by omega)) rfl ?_
  simp only [PA]
  refine PV (.int .u32 ((l:Nat):Int)) (CT (run_loadB rfl rfl (H.at_ _ (MI (i:=1) rfl)) (by first | omega | (have:=hV.1; omega))) (vnat ae)) rfl ?_
  simp only [PA]
  refine PV (J ((l:Nat):Int)) (run_cv _ rfl rfl rfl rfl (wrap_u64 (by have:=ag; rw [BW_eq] at this; omega))) rfl ?_
  simp only [PA]
  refine PV (J ((r+l:Nat):Int)) (CT (run_bin (J ((r:Nat):Int)) (J ((l:Nat):Int)) _ rfl rfl rfl (bin_add_104 _ _ _ _)) (vint (w_add (m:=r) (n:=l) (by rw [BW_eq] at *; omega)))) rfl ?_
  simp only [PA]
  refine PV (J ((r+l:Nat):Int)) rfl rfl ?_
  simp only [PA]
  refine wpList_nil ?_
  refine av _ _ ?_
  refine wp_seq_k fun aR aj=>?_
  refine wp_region_lit ?_
  refine PV (J ((r+l:Nat):Int)) rfl rfl ?_
  simp only [PA]
  by_cases aa:(4294967296:Int)≤((r+l:Nat):Int)
  ·skip
   refine PV (T true) (CT (run_bin (J ((r+l:Nat):Int)) (J 4294967296) _ rfl rfl rfl (bin_geq_104 _ _ _ _)) (congrArg Value.bool (decide_eq_true aa))) rfl ?_
   simp only [PA]
   refine wpList_nil ?_
   refine aj _ _ ?_
   refine cond_true rfl ?_
   refine wp_exit ?_
   exact ⟨q - 1,[J ((r+l:Nat):Int),J ((q:Nat):Int),T true,T true,O,O,O,O,O,O,O,O,O,O,O,O,O,O,O,O,O,O,O,O,T true,J ((q:Nat):Int),J ((q - 1:Nat):Int),J ((r:Nat):Int),E (some ⟨p,0,none⟩) k k,I (k:Int),I ((kk:Nat):Int),.pointer (some ⟨p,kk,none⟩),.int .u32 ((l:Nat):Int),J ((l:Nat):Int),J ((r+l:Nat):Int),J ((r+l:Nat):Int),T true],rfl,H,by first | exact ⟨S,hq.2,G.near hq.1 S (by rw [hrb,hrs,hqv]; omega)⟩ | exact guess_break G (guess_sub hdn.2 hq.1) hdn.1 (by rw [BW_eq]; omega),(X.trans Y)⟩
  ·skip
   refine PV (T false) (CT (run_bin (J ((r+l:Nat):Int)) (J 4294967296) _ rfl rfl rfl (bin_geq_104 _ _ _ _)) (congrArg Value.bool (decide_eq_false aa))) rfl ?_
   simp only [PA]
   refine wpList_nil ?_
   refine aj _ _ ?_
   refine cond_false rfl ?_
   refine wp_skip ?_
   exact ⟨q - 1,by have:=hdn.2; omega,q - 1,r+l,[J ((q:Nat):Int),T true,T true,O,O,O,O,O,O,O,O,O,O,O,O,O,O,O,O,O,O,O,O,T true,J ((q:Nat):Int),J ((q - 1:Nat):Int),J ((r:Nat):Int),E (some ⟨p,0,none⟩) k k,I (k:Int),I ((kk:Nat):Int),.pointer (some ⟨p,kk,none⟩),.int .u32 ((l:Nat):Int),J ((l:Nat):Int),J ((r+l:Nat):Int),J ((r+l:Nat):Int),T false],rfl,H,⟨guess_sub hdn.2 hq.1,hdn.1⟩,by rw [BW_eq]; omega,(X.trans Y),rfl⟩
 ·skip
  refine anyT_here (i:=1) (T false) rfl (by kernel_rfl) (by kernel_rfl) (by kernel_rfl) (by kernel_rfl) (fun _ _ _ h=>hQp _ _ _ _ _ h) rfl (CT (run_bin (J ((q:Nat):Int)) (J 4294967296) _ rfl rfl rfl (bin_geq_104 _ _ _ _)) (congrArg Value.bool (decide_eq_false hqB))) ?_
  simp only [PA]
  refine anyT_here (i:=2) (T false) rfl (by kernel_rfl) (by kernel_rfl) (by kernel_rfl) (by kernel_rfl) (fun _ _ _ h=>hQp _ _ _ _ _ h) rfl rfl ?_
  simp only [PA]
  refine anyT_here (i:=3) (J ((q:Nat):Int)) rfl (by kernel_rfl) (by kernel_rfl) (by kernel_rfl) (by kernel_rfl) (fun _ _ _ h=>hQp _ _ _ _ _ h) rfl rfl ?_
  simp only [PA]
  refine anyT_here (i:=4) (E (some ⟨p,0,none⟩) k k) rfl (by kernel_rfl) (by kernel_rfl) (by kernel_rfl) (by kernel_rfl) (fun _ _ _ h=>hQp _ _ _ _ _ h) rfl rfl ?_
  simp only [PA]
  refine anyT_here (i:=5) (I (k:Int)) rfl (by kernel_rfl) (by kernel_rfl) (by kernel_rfl) (by kernel_rfl) (fun _ _ _ h=>hQp _ _ _ _ _ h) rfl rfl ?_
  simp only [PA]
  refine anyT_here (i:=6) (I ((k2:Nat):Int)) rfl (by kernel_rfl) (by kernel_rfl) (by kernel_rfl) (by kernel_rfl) (fun _ _ _ h=>hQp _ _ _ _ _ h) rfl (CT (run_bin (I (k:Int)) (I 2) _ rfl rfl rfl (bin_sub_3 _ _ _ _)) (vint (by rw [IntKind.wrap_i64]; omega))) ?_
  simp only [PA]
  refine anyT_here (i:=7) (.pointer (some ⟨p,k2,none⟩)) rfl (by kernel_rfl) (by kernel_rfl) (by kernel_rfl) (by kernel_rfl) (fun _ _ _ h=>hQp _ _ _ _ _ h) rfl (run_idxB rfl rfl rfl (by omega)) ?_
  simp only [PA]
  refine anyT_here (i:=8) (.int .u32 ((D:Nat):Int)) rfl (by kernel_rfl) (by kernel_rfl) (by kernel_rfl) (by kernel_rfl) (fun _ _ _ h=>hQp _ _ _ _ _ h) rfl (CT (run_loadB rfl rfl (H.at_ _ (MI (i:=1) rfl)) (by first | omega | (have:=hV.1; omega))) (vnat an)) ?_
  simp only [PA]
  refine anyT_here (i:=9) (J ((D:Nat):Int)) rfl (by kernel_rfl) (by kernel_rfl) (by kernel_rfl) (by kernel_rfl) (fun _ _ _ h=>hQp _ _ _ _ _ h) rfl (run_cv _ rfl rfl rfl rfl (wrap_u64 (by have:=ah; rw [BW_eq] at this; omega))) ?_
  simp only [PA]
  have S:q<BW:=by rw [BW_eq]; omega
  obtain ⟨qv,hqv⟩:∃ z:Nat,q * D=z:=⟨_,rfl⟩
  refine anyT_here (i:=10) (J ((qv:Nat):Int)) rfl (by kernel_rfl) (by kernel_rfl) (by kernel_rfl) (by kernel_rfl) (fun _ _ _ h=>hQp _ _ _ _ _ h) rfl (CT (run_bin (J ((q:Nat):Int)) (J ((D:Nat):Int)) _ rfl rfl rfl (bin_mul_104 _ _ _ _)) ((vint (w_mul (m:=q) (n:=D) (mul_lt64 S ah))).trans (vnat hqv))) ?_
  simp only [PA]
  refine anyT_here (i:=11) (J ((r:Nat):Int)) rfl (by kernel_rfl) (by kernel_rfl) (by kernel_rfl) (by kernel_rfl) (fun _ _ _ h=>hQp _ _ _ _ _ h) rfl rfl ?_
  simp only [PA]
  obtain ⟨rb,hrb⟩:∃ z:Nat,r * BW=z:=⟨_,rfl⟩
  refine anyT_here (i:=12) (J ((rb:Nat):Int)) rfl (by kernel_rfl) (by kernel_rfl) (by kernel_rfl) (by kernel_rfl) (fun _ _ _ h=>hQp _ _ _ _ _ h) rfl (CT (run_bin (J ((r:Nat):Int)) (J 32) _ rfl rfl rfl (bin_shl_104_u64 _ _ _ _)) ((vint (w_shl32 (a:=r) hrB)).trans (vnat hrb))) ?_
  simp only [PA]
  refine anyT_here (i:=13) (E (some ⟨A,0,none⟩) n1 n1) rfl (by kernel_rfl) (by kernel_rfl) (by kernel_rfl) (by kernel_rfl) (fun _ _ _ h=>hQp _ _ _ _ _ h) rfl rfl ?_
  simp only [PA]
  refine anyT_here (i:=14) (I ((pre.length:Nat):Int)) rfl (by kernel_rfl) (by kernel_rfl) (by kernel_rfl) (by kernel_rfl) (fun _ _ _ h=>hQp _ _ _ _ _ h) rfl (CT rfl (vint (by omega))) ?_
  simp only [PA]
  refine anyT_here (i:=15) (I (k:Int)) rfl (by kernel_rfl) (by kernel_rfl) (by kernel_rfl) (by kernel_rfl) (fun _ _ _ h=>hQp _ _ _ _ _ h) rfl rfl ?_
  simp only [PA]
  refine anyT_here (i:=16) (I ((pre.length+k:Nat):Int)) rfl (by kernel_rfl) (by kernel_rfl) (by kernel_rfl) (by kernel_rfl) (fun _ _ _ h=>hQp _ _ _ _ _ h) rfl (CT (run_bin (I ((pre.length:Nat):Int)) (I (k:Int)) _ rfl rfl rfl (bin_add_3 _ _ _ _)) (vint (by rw [IntKind.wrap_i64]; omega))) ?_
  simp only [PA]
  refine anyT_here (i:=17) (I ((pre.length+k2:Nat):Int)) rfl (by kernel_rfl) (by kernel_rfl) (by kernel_rfl) (by kernel_rfl) (fun _ _ _ h=>hQp _ _ _ _ _ h) rfl (CT (run_bin (I ((pre.length+k:Nat):Int)) (I 2) _ rfl rfl rfl (bin_sub_3 _ _ _ _)) (vint (by rw [IntKind.wrap_i64]; omega))) ?_
  simp only [PA]
  refine anyT_here (i:=18) (.pointer (some ⟨A,(pre.length+k2),none⟩)) rfl (by kernel_rfl) (by kernel_rfl) (by kernel_rfl) (by kernel_rfl) (fun _ _ _ h=>hQp _ _ _ _ _ h) rfl (run_idxB rfl rfl rfl (by omega)) ?_
  simp only [PA]
  refine anyT_here (i:=19) (.int .u32 ((C:Nat):Int)) rfl (by kernel_rfl) (by kernel_rfl) (by kernel_rfl) (by kernel_rfl) (fun _ _ _ h=>hQp _ _ _ _ _ h) rfl (CT (run_loadWin rfl rfl (H.at_ _ (MI (i:=2) rfl)) (by first | omega)) (vnat am)) ?_
  simp only [PA]
  refine anyT_here (i:=20) (J ((C:Nat):Int)) rfl (by kernel_rfl) (by kernel_rfl) (by kernel_rfl) (by kernel_rfl) (fun _ _ _ h=>hQp _ _ _ _ _ h) rfl (run_cv _ rfl rfl rfl rfl (wrap_u64 (by have:=af; rw [BW_eq] at this; omega))) ?_
  simp only [PA]
  obtain ⟨rs,hrs⟩:∃ z:Nat,rb+C=z:=⟨_,rfl⟩
  refine anyT_here (i:=21) (J ((rs:Nat):Int)) rfl (by kernel_rfl) (by kernel_rfl) (by kernel_rfl) (by kernel_rfl) (fun _ _ _ h=>hQp _ _ _ _ _ h) rfl (CT (run_bin (J ((rb:Nat):Int)) (J ((C:Nat):Int)) _ rfl rfl rfl (bin_or_104 _ _ _ _)) ((vint (hrb▸head_or (a:=r) (b:=C) hrB af)).trans (vnat hrs))) ?_
  simp only [PA]
  by_cases hgt:(((rs:Nat):Int):Int)<((qv:Nat):Int)
  ·skip
   refine anyT_here (i:=22) (T true) rfl (by kernel_rfl) (by kernel_rfl) (by kernel_rfl) (by kernel_rfl) (fun _ _ _ h=>hQp _ _ _ _ _ h) rfl (CT (run_bin (J ((qv:Nat):Int)) (J ((rs:Nat):Int)) _ rfl rfl rfl (bin_gtr_104 _ _ _ _)) (congrArg Value.bool (decide_eq_true hgt))) ?_
   simp only [PA]
   refine anyT_here (i:=23) (T true) rfl (by kernel_rfl) (by kernel_rfl) (by kernel_rfl) (by kernel_rfl) (fun _ _ _ h=>hQp _ _ _ _ _ h) rfl rfl ?_
   simp only [PA]
   refine anyT_done (by kernel_rfl) ?_ _
   refine ac _ _ ?_
   refine cond_true rfl ?_
   refine wp_skip ?_
   refine ai _ _ ?_
   refine wp_block ?_
   refine wp_seq_k fun aS aw=>?_
   refine wp_region_lit ?_
   have hdn:val wl / val vl≤q - 1∧0<q:=by first | exact guess_big G (by rw [BW_eq]; omega) | exact G.down hq.1 hq.2 (by rw [hrb,hrs,hqv]; omega)
   refine PV (J ((q:Nat):Int)) rfl rfl ?_
   simp only [PA]
   refine PV (J ((q - 1:Nat):Int)) (CT (run_bin (J ((q:Nat):Int)) (J 1) _ rfl rfl rfl (bin_sub_104 _ _ _ _)) (vint (w_sub (m:=q) (n:=1) (by have:=hdn.2; omega) (by have:=hqle; rw [BW_eq] at this; omega)))) rfl ?_
   simp only [PA]
   refine PV (J ((q - 1:Nat):Int)) rfl rfl ?_
   simp only [PA]
   refine wpList_nil ?_
   refine aw _ _ ?_
   refine wp_seq_k fun aU ax=>?_
   refine wp_region_lit ?_
   refine PV (J ((r:Nat):Int)) rfl rfl ?_
   simp only [PA]
   refine PV (E (some ⟨p,0,none⟩) k k) rfl rfl ?_
   simp only [PA]
   refine PV (I (k:Int)) rfl rfl ?_
   simp only [PA]
   refine PV (I ((kk:Nat):Int)) (CT (run_bin (I (k:Int)) (I 1) _ rfl rfl rfl (bin_sub_3 _ _ _ _)) (vint (by rw [IntKind.wrap_i64]; omega))) rfl ?_
   simp only [PA]
   refine PV (.pointer (some ⟨p,kk,none⟩)) (run_idxB rfl rfl rfl (by omega)) rfl ?_
   simp only [PA]
   refine PV (.int .u32 ((l:Nat):Int)) (CT (run_loadB rfl rfl (H.at_ _ (MI (i:=1) rfl)) (by first | omega | (have:=hV.1; omega))) (vnat ae)) rfl ?_
   simp only [PA]
   refine PV (J ((l:Nat):Int)) (run_cv _ rfl rfl rfl rfl (wrap_u64 (by have:=ag; rw [BW_eq] at this; omega))) rfl ?_
   simp only [PA]
   refine PV (J ((r+l:Nat):Int)) (CT (run_bin (J ((r:Nat):Int)) (J ((l:Nat):Int)) _ rfl rfl rfl (bin_add_104 _ _ _ _)) (vint (w_add (m:=r) (n:=l) (by rw [BW_eq] at *; omega)))) rfl ?_
   simp only [PA]
   refine PV (J ((r+l:Nat):Int)) rfl rfl ?_
   simp only [PA]
   refine wpList_nil ?_
   refine ax _ _ ?_
   refine wp_seq_k fun aV al=>?_
   refine wp_region_lit ?_
   refine PV (J ((r+l:Nat):Int)) rfl rfl ?_
   simp only [PA]
   by_cases aa:(4294967296:Int)≤((r+l:Nat):Int)
   ·skip
    refine PV (T true) (CT (run_bin (J ((r+l:Nat):Int)) (J 4294967296) _ rfl rfl rfl (bin_geq_104 _ _ _ _)) (congrArg Value.bool (decide_eq_true aa))) rfl ?_
    simp only [PA]
    refine wpList_nil ?_
    refine al _ _ ?_
    refine cond_true rfl ?_
    refine wp_exit ?_
    exact ⟨q - 1,[J ((r+l:Nat):Int),J ((q:Nat):Int),T false,T false,J ((q:Nat):Int),E (some ⟨p,0,none⟩) k k,I (k:Int),I ((k2:Nat):Int),.pointer (some ⟨p,k2,none⟩),.int .u32 ((D:Nat):Int),J ((D:Nat):Int),J ((qv:Nat):Int),J ((r:Nat):Int),J ((rb:Nat):Int),E (some ⟨A,0,none⟩) n1 n1,I ((pre.length:Nat):Int),I (k:Int),I ((pre.length+k:Nat):Int),I ((pre.length+k2:Nat):Int),.pointer (some ⟨A,(pre.length+k2),none⟩),.int .u32 ((C:Nat):Int),J ((C:Nat):Int),J ((rs:Nat):Int),T true,T true,J ((q:Nat):Int),J ((q - 1:Nat):Int),J ((r:Nat):Int),E (some ⟨p,0,none⟩) k k,I (k:Int),I ((kk:Nat):Int),.pointer (some ⟨p,kk,none⟩),.int .u32 ((l:Nat):Int),J ((l:Nat):Int),J ((r+l:Nat):Int),J ((r+l:Nat):Int),T true],rfl,H,by first | exact ⟨S,hq.2,G.near hq.1 S (by rw [hrb,hrs,hqv]; omega)⟩ | exact guess_break G (guess_sub hdn.2 hq.1) hdn.1 (by rw [BW_eq]; omega),(X.trans Y)⟩
   ·skip
    refine PV (T false) (CT (run_bin (J ((r+l:Nat):Int)) (J 4294967296) _ rfl rfl rfl (bin_geq_104 _ _ _ _)) (congrArg Value.bool (decide_eq_false aa))) rfl ?_
    simp only [PA]
    refine wpList_nil ?_
    refine al _ _ ?_
    refine cond_false rfl ?_
    refine wp_skip ?_
    exact ⟨q - 1,by have:=hdn.2; omega,q - 1,r+l,[J ((q:Nat):Int),T false,T false,J ((q:Nat):Int),E (some ⟨p,0,none⟩) k k,I (k:Int),I ((k2:Nat):Int),.pointer (some ⟨p,k2,none⟩),.int .u32 ((D:Nat):Int),J ((D:Nat):Int),J ((qv:Nat):Int),J ((r:Nat):Int),J ((rb:Nat):Int),E (some ⟨A,0,none⟩) n1 n1,I ((pre.length:Nat):Int),I (k:Int),I ((pre.length+k:Nat):Int),I ((pre.length+k2:Nat):Int),.pointer (some ⟨A,(pre.length+k2),none⟩),.int .u32 ((C:Nat):Int),J ((C:Nat):Int),J ((rs:Nat):Int),T true,T true,J ((q:Nat):Int),J ((q - 1:Nat):Int),J ((r:Nat):Int),E (some ⟨p,0,none⟩) k k,I (k:Int),I ((kk:Nat):Int),.pointer (some ⟨p,kk,none⟩),.int .u32 ((l:Nat):Int),J ((l:Nat):Int),J ((r+l:Nat):Int),J ((r+l:Nat):Int),T false],rfl,H,⟨guess_sub hdn.2 hq.1,hdn.1⟩,by rw [BW_eq]; omega,(X.trans Y),rfl⟩
  ·skip
   refine anyT_here (i:=22) (T false) rfl (by kernel_rfl) (by kernel_rfl) (by kernel_rfl) (by kernel_rfl) (fun _ _ _ h=>hQp _ _ _ _ _ h) rfl (CT (run_bin (J ((qv:Nat):Int)) (J ((rs:Nat):Int)) _ rfl rfl rfl (bin_gtr_104 _ _ _ _)) (congrArg Value.bool (decide_eq_false hgt))) ?_
   simp only [PA]
   refine anyT_here (i:=23) (T false) rfl (by kernel_rfl) (by kernel_rfl) (by kernel_rfl) (by kernel_rfl) (fun _ _ _ h=>hQp _ _ _ _ _ h) rfl rfl ?_
   simp only [PA]
   refine anyT_done (by kernel_rfl) ?_ _
   refine ac _ _ ?_
   refine cond_false rfl ?_
   refine wp_exit ?_
   exact ⟨q,[J ((r:Nat):Int),J ((q:Nat):Int),T false,T false,J ((q:Nat):Int),E (some ⟨p,0,none⟩) k k,I (k:Int),I ((k2:Nat):Int),.pointer (some ⟨p,k2,none⟩),.int .u32 ((D:Nat):Int),J ((D:Nat):Int),J ((qv:Nat):Int),J ((r:Nat):Int),J ((rb:Nat):Int),E (some ⟨A,0,none⟩) n1 n1,I ((pre.length:Nat):Int),I (k:Int),I ((pre.length+k:Nat):Int),I ((pre.length+k2:Nat):Int),.pointer (some ⟨A,(pre.length+k2),none⟩),.int .u32 ((C:Nat):Int),J ((C:Nat):Int),J ((rs:Nat):Int),T false,T false,(GD o 24),(GD o 25),(GD o 26),(GD o 27),(GD o 28),(GD o 29),(GD o 30),(GD o 31),(GD o 32),(GD o 33),(GD o 34),(GD o 35)],rfl,H,by first | exact ⟨S,hq.2,G.near hq.1 S (by rw [hrb,hrs,hqv]; omega)⟩ | exact guess_break G (guess_sub hdn.2 hq.1) hdn.1 (by rw [BW_eq]; omega),(X.trans Y)⟩
end Go.Proofs.Ythhgjloephkpaaa
