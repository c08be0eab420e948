/- Words and walks for the row RowRatLeast, put together: RQS, RQB. -/
import Derived.Test.YthhgjloephkpaaaLe17
import Derived.Test.YthhgjloephkpaaaLe6
namespace Go.Proofs.Ythhgjloephkpaaa
set_option linter.unusedVariables false
set_option linter.unusedSimpArgs false
open Go Go.RowKit Go.Proofs.YthhgjloephkpaaaW.PrintWords Go.Proofs.YthhgjloephkpaaaW.PrintLast
set_option maxRecDepth 100000 in
set_option maxHeartbeats 8000000 in
theorem qc_sub {ad bd:Addr} {n n1 k c d x y kk k2 nk M yt s:Nat} {w:World} (hx:Wds w (some ad) n c (dg x)) (hy:Wds w (some bd) k d (dg y)) (hk:2≤k) (hkn:k≤n) (hnm:n≤1000000000) (hkk:kk+1=k) (an:k2+2=k) (ao:n1=n+1) (hnk:nk+k=n) (hM:M=nk+1) (hxl:(dg x).length=n) (hyl:(dg y).length=k) (ap:s≤31) (aq:min s 32=s) (ar:min (32 - s) 32=32 - s) {vl:List Nat} (hvlen:vl.length=k) (hvD:Dig vl) (hYl:BW ^ (k - 1) * 2 ^ 31≤val vl) (hYBv:val vl<BW ^ k) {D F L A N hd P:Nat} {pre wl post outs:List Nat} (hwl:wl.length=k+1) (hwD:Dig wl) (au:wl.getD k 0=D) (av:wl.getD k2 0=L) (aw:vl.getD kk 0=A) (ax:vl.getD k2 0=N) (ay:D<BW) (az:L<BW) (aA:A<BW) (aC:N<BW) (aD:2147483648≤A) (G:Guess (val wl) (val vl) hd A N L P) (htM:pre.length+1≤M) {q:Nat} (hq:q<BW∧val wl / val vl≤q∧q≤val wl / val vl+1) {C t r ab R S:Nat} {b g h f:List Value} {V:World} (ae:St w V [⟨C,wc (outs),100⟩,⟨t,wc (vl),100⟩,⟨r,wc (pre++wl++post),100⟩]) {Q:Exit→Act→World→Prop} (hQp:∀ c (a:Act) d v w,Q (.panic c) (a.put d v) w→Q (.panic c) a w) :
  (pR (pL (pR (pR (pR (pR (pB (pL (pR (pB (pB (pR (pL (pR (pR (pR (pR (pR (pR (pR (pR (pR (pR (pF Try.f117)))))))))))))))))))))))).wp Try.prog (Exit.then (fun aa_ w'=>∃ (j:Nat) (cy:Nat) (br:Nat) (cur:List Nat) (o:List Value),aa_=⟨#[E (some ad) n c,E (some bd) k d,O,O,E none 0 0,E none 0 0,O,O,O,O,J ((s:Nat):Int),E (some ⟨r,0,none⟩) n1 n1,E (some ⟨t,0,none⟩) k k,(GD h 0),(GD f 0),I (k:Int),E (some ⟨C,0,none⟩) M M,I ((((pre.length+1):Nat):Int) - 1),J ((hd:Nat):Int),J ((q:Nat):Int),(GD g 0),I ((br:Nat):Int),J ((cy:Nat):Int),(GD o 0),(GD o 1),(GD o 2),(GD b 8),(GD b 9),(GD b 10),(GD b 11),O,O,E (some ad) n c,E (some bd) k d,I (cmpN (x) (y)),T false,O,O,E (some bd) k d,I (k:Int),T false,O,O,O,O,O,O,O,O,O,O,O,O,O,O,O,O,O,O,O,O,O,O,O,O,O,O,O,O,O,O,O,O,O,O,O,O,O,O,E (some bd) k d,E (some bd) k d,I (k:Int),I ((kk:Nat):Int),.pointer (some (bd.add kk)),.int .u32 ((yt:Nat):Int),I ((s:Nat):Int),J ((s:Nat):Int),E (some ad) n c,I (n:Int),I ((n1:Nat):Int),E (some ⟨r,0,none⟩) n1 n1,E (some bd) k d,I (k:Int),E (some ⟨t,0,none⟩) k k,E (some bd) k d,I (k:Int),(GD h 1),(GD h 2),(GD h 3),(GD h 4),(GD h 5),(GD h 6),(GD h 7),(GD h 8),(GD h 9),(GD h 10),(GD h 11),(GD h 12),(GD h 13),(GD h 14),(GD h 15),(GD h 16),(GD h 17),(GD h 18),(GD h 19),(GD h 20),(GD h 21),(GD h 22),(GD h 23),(GD h 24),(GD h 25),(GD h 26),(GD h 27),(GD h 28),(GD h 29),(GD h 30),(GD h 31),(GD h 32),(GD h 33),E (some ⟨r,0,none⟩) n1 n1,I (n1:Int),(GD f 1),(GD f 2),(GD f 3),(GD f 4),(GD f 5),(GD f 6),(GD f 7),(GD f 8),(GD f 9),(GD f 10),(GD f 11),(GD f 12),(GD f 13),(GD f 14),(GD f 15),(GD f 16),(GD f 17),(GD f 18),(GD f 19),(GD f 20),(GD f 21),(GD f 22),(GD f 23),(GD f 24),(GD f 25),(GD f 26),(GD f 27),(GD f 28),(GD f 29),(GD f 30),(GD f 31),(GD f 32),(GD f 33),(GD f 34),(GD f 35),(GD f 36),(GD f 37),E (some ⟨t,0,none⟩) k k,I (k:Int),E (some ad) n c,I (n:Int),I (k:Int),I ((nk:Nat):Int),I ((M:Nat):Int),E (some ⟨C,0,none⟩) M M,E (some ad) n c,I (n:Int),I (k:Int),I (((M:Nat):Int) - 1),I ((((pre.length+1):Nat):Int) - 1),T true,(GD b 14),(GD b 15),E (some ⟨r,0,none⟩) n1 n1,I ((pre.length:Nat):Int),I (k:Int),I ((pre.length+k:Nat):Int),.pointer (some ⟨r,(pre.length+k),none⟩),.int .u32 ((D:Nat):Int),J ((D:Nat):Int),J ((ab:Nat):Int),E (some ⟨r,0,none⟩) n1 n1,I ((pre.length:Nat):Int),I (k:Int),I ((pre.length+k:Nat):Int),I ((pre.length+kk:Nat):Int),.pointer (some ⟨r,(pre.length+kk),none⟩),.int .u32 ((F:Nat):Int),J ((F:Nat):Int),J ((hd:Nat):Int),J ((hd:Nat):Int),E (some ⟨t,0,none⟩) k k,I (k:Int),I ((kk:Nat):Int),.pointer (some ⟨t,kk,none⟩),.int .u32 ((A:Nat):Int),J ((A:Nat):Int),J ((R:Nat):Int),J ((hd:Nat):Int),E (some ⟨t,0,none⟩) k k,I (k:Int),I ((kk:Nat):Int),.pointer (some ⟨t,kk,none⟩),.int .u32 ((A:Nat):Int),J ((A:Nat):Int),J ((S:Nat):Int),(GD g 1),(GD g 2),(GD g 3),(GD g 4),(GD g 5),(GD g 6),(GD g 7),(GD g 8),(GD g 9),(GD g 10),(GD g 11),(GD g 12),(GD g 13),(GD g 14),(GD g 15),(GD g 16),(GD g 17),(GD g 18),(GD g 19),(GD g 20),(GD g 21),(GD g 22),(GD g 23),(GD g 24),(GD g 25),(GD g 26),(GD g 27),(GD g 28),(GD g 29),(GD g 30),(GD g 31),(GD g 32),(GD g 33),(GD g 34),(GD g 35),(GD g 36),I (k:Int),(GD o 3),(GD o 4),(GD o 5),(GD o 6),(GD o 7),(GD o 8),(GD o 9),(GD o 10),(GD o 11),(GD o 12),(GD o 13),(GD o 14),(GD o 15),(GD o 16),(GD o 17),(GD o 18),(GD o 19),(GD o 20),(GD o 21),(GD o 22),(GD o 23),(GD o 24),(GD o 25),(GD o 26),(GD o 27),(GD o 28),(GD o 29),(GD o 30),(GD o 31),(GD o 32),(GD o 33),(GD o 34),(GD o 35),(GD o 36),(GD o 37),(GD o 38),(GD o 39),(GD b 123),(GD b 124),(GD b 125),(GD b 126),(GD b 127),(GD b 128),(GD b 129),(GD b 130),(GD b 131),(GD b 132),(GD b 133),(GD b 134),(GD b 135),(GD b 136),(GD b 137),(GD b 138),(GD b 139),(GD b 140),(GD b 141),(GD b 142),(GD b 143),(GD b 144),(GD b 145),(GD b 146),(GD b 147),(GD b 148),(GD b 149),(GD b 150),(GD b 151),(GD b 152),(GD b 153),(GD b 154),(GD b 155),(GD b 156),(GD b 157),(GD b 158),(GD b 159),(GD b 160),(GD b 161),(GD b 162),(GD b 163),(GD b 164),(GD b 165),(GD b 166),(GD b 167),(GD b 168),(GD b 169),(GD b 170),(GD b 171),(GD b 172),(GD b 173),(GD b 174),(GD b 175),(GD b 176),(GD b 177),(GD b 178),(GD b 179),(GD b 180),(GD b 181),(GD b 182),(GD b 183),(GD b 184),(GD b 185),(GD b 186),(GD b 187),(GD b 188),(GD b 189),O,O,O,O,O,O,O,O,O,O,O,O,O,O,O,O,O,O,O,O,O,O,O,O,O,O,O,O,O,O,O,O,O,O],[]⟩∧St w w' [⟨C,wc (outs),100⟩,⟨t,wc (vl),100⟩,⟨r,wc (pre++cur++post),100⟩]∧(j=k)∧(br≤1)∧(cy<BW)∧(Sub wl vl q j cy br cur)∧True) Q) ⟨#[E (some ad) n c,E (some bd) k d,O,O,E none 0 0,E none 0 0,O,O,O,O,J ((s:Nat):Int),E (some ⟨r,0,none⟩) n1 n1,E (some ⟨t,0,none⟩) k k,(GD h 0),(GD f 0),I (k:Int),E (some ⟨C,0,none⟩) M M,I ((((pre.length+1):Nat):Int) - 1),J ((hd:Nat):Int),J ((q:Nat):Int),(GD g 0),I 0,J 0,(GD b 5),(GD b 6),(GD b 7),(GD b 8),(GD b 9),(GD b 10),(GD b 11),O,O,E (some ad) n c,E (some bd) k d,I (cmpN (x) (y)),T false,O,O,E (some bd) k d,I (k:Int),T false,O,O,O,O,O,O,O,O,O,O,O,O,O,O,O,O,O,O,O,O,O,O,O,O,O,O,O,O,O,O,O,O,O,O,O,O,O,O,E (some bd) k d,E (some bd) k d,I (k:Int),I ((kk:Nat):Int),.pointer (some (bd.add kk)),.int .u32 ((yt:Nat):Int),I ((s:Nat):Int),J ((s:Nat):Int),E (some ad) n c,I (n:Int),I ((n1:Nat):Int),E (some ⟨r,0,none⟩) n1 n1,E (some bd) k d,I (k:Int),E (some ⟨t,0,none⟩) k k,E (some bd) k d,I (k:Int),(GD h 1),(GD h 2),(GD h 3),(GD h 4),(GD h 5),(GD h 6),(GD h 7),(GD h 8),(GD h 9),(GD h 10),(GD h 11),(GD h 12),(GD h 13),(GD h 14),(GD h 15),(GD h 16),(GD h 17),(GD h 18),(GD h 19),(GD h 20),(GD h 21),(GD h 22),(GD h 23),(GD h 24),(GD h 25),(GD h 26),(GD h 27),(GD h 28),(GD h 29),(GD h 30),(GD h 31),(GD h 32),(GD h 33),E (some ⟨r,0,none⟩) n1 n1,I (n1:Int),(GD f 1),(GD f 2),(GD f 3),(GD f 4),(GD f 5),(GD f 6),(GD f 7),(GD f 8),(GD f 9),(GD f 10),(GD f 11),(GD f 12),(GD f 13),(GD f 14),(GD f 15),(GD f 16),(GD f 17),(GD f 18),(GD f 19),(GD f 20),(GD f 21),(GD f 22),(GD f 23),(GD f 24),(GD f 25),(GD f 26),(GD f 27),(GD f 28),(GD f 29),(GD f 30),(GD f 31),(GD f 32),(GD f 33),(GD f 34),(GD f 35),(GD f 36),(GD f 37),E (some ⟨t,0,none⟩) k k,I (k:Int),E (some ad) n c,I (n:Int),I (k:Int),I ((nk:Nat):Int),I ((M:Nat):Int),E (some ⟨C,0,none⟩) M M,E (some ad) n c,I (n:Int),I (k:Int),I (((M:Nat):Int) - 1),I ((((pre.length+1):Nat):Int) - 1),T true,(GD b 14),(GD b 15),E (some ⟨r,0,none⟩) n1 n1,I ((pre.length:Nat):Int),I (k:Int),I ((pre.length+k:Nat):Int),.pointer (some ⟨r,(pre.length+k),none⟩),.int .u32 ((D:Nat):Int),J ((D:Nat):Int),J ((ab:Nat):Int),E (some ⟨r,0,none⟩) n1 n1,I ((pre.length:Nat):Int),I (k:Int),I ((pre.length+k:Nat):Int),I ((pre.length+kk:Nat):Int),.pointer (some ⟨r,(pre.length+kk),none⟩),.int .u32 ((F:Nat):Int),J ((F:Nat):Int),J ((hd:Nat):Int),J ((hd:Nat):Int),E (some ⟨t,0,none⟩) k k,I (k:Int),I ((kk:Nat):Int),.pointer (some ⟨t,kk,none⟩),.int .u32 ((A:Nat):Int),J ((A:Nat):Int),J ((R:Nat):Int),J ((hd:Nat):Int),E (some ⟨t,0,none⟩) k k,I (k:Int),I ((kk:Nat):Int),.pointer (some ⟨t,kk,none⟩),.int .u32 ((A:Nat):Int),J ((A:Nat):Int),J ((S:Nat):Int),(GD g 1),(GD g 2),(GD g 3),(GD g 4),(GD g 5),(GD g 6),(GD g 7),(GD g 8),(GD g 9),(GD g 10),(GD g 11),(GD g 12),(GD g 13),(GD g 14),(GD g 15),(GD g 16),(GD g 17),(GD g 18),(GD g 19),(GD g 20),(GD g 21),(GD g 22),(GD g 23),(GD g 24),(GD g 25),(GD g 26),(GD g 27),(GD g 28),(GD g 29),(GD g 30),(GD g 31),(GD g 32),(GD g 33),(GD g 34),(GD g 35),(GD g 36),I (k:Int),I 0,(GD b 87),(GD b 88),(GD b 89),(GD b 90),(GD b 91),(GD b 92),(GD b 93),(GD b 94),(GD b 95),(GD b 96),(GD b 97),(GD b 98),(GD b 99),(GD b 100),(GD b 101),(GD b 102),(GD b 103),(GD b 104),(GD b 105),(GD b 106),(GD b 107),(GD b 108),(GD b 109),(GD b 110),(GD b 111),(GD b 112),(GD b 113),(GD b 114),(GD b 115),(GD b 116),(GD b 117),(GD b 118),(GD b 119),(GD b 120),(GD b 121),(GD b 122),(GD b 123),(GD b 124),(GD b 125),(GD b 126),(GD b 127),(GD b 128),(GD b 129),(GD b 130),(GD b 131),(GD b 132),(GD b 133),(GD b 134),(GD b 135),(GD b 136),(GD b 137),(GD b 138),(GD b 139),(GD b 140),(GD b 141),(GD b 142),(GD b 143),(GD b 144),(GD b 145),(GD b 146),(GD b 147),(GD b 148),(GD b 149),(GD b 150),(GD b 151),(GD b 152),(GD b 153),(GD b 154),(GD b 155),(GD b 156),(GD b 157),(GD b 158),(GD b 159),(GD b 160),(GD b 161),(GD b 162),(GD b 163),(GD b 164),(GD b 165),(GD b 166),(GD b 167),(GD b 168),(GD b 169),(GD b 170),(GD b 171),(GD b 172),(GD b 173),(GD b 174),(GD b 175),(GD b 176),(GD b 177),(GD b 178),(GD b 179),(GD b 180),(GD b 181),(GD b 182),(GD b 183),(GD b 184),(GD b 185),(GD b 186),(GD b 187),(GD b 188),(GD b 189),O,O,O,O,O,O,O,O,O,O,O,O,O,O,O,O,O,O,O,O,O,O,O,O,O,O,O,O,O,O,O,O,O,O],[]⟩ V:=by
 show (Code.block 10 _).wp _ _ _ _
 refine wp_block ?_
 refine wp_loop_g (fun mm aa_ w'=>∃ (j:Nat) (cy:Nat) (br:Nat) (cur:List Nat) (l:List Value),aa_=⟨#[E (some ad) n c,E (some bd) k d,O,O,E none 0 0,E none 0 0,O,O,O,O,J ((s:Nat):Int),E (some ⟨r,0,none⟩) n1 n1,E (some ⟨t,0,none⟩) k k,(GD h 0),(GD f 0),I (k:Int),E (some ⟨C,0,none⟩) M M,I ((((pre.length+1):Nat):Int) - 1),J ((hd:Nat):Int),J ((q:Nat):Int),(GD g 0),I ((br:Nat):Int),J ((cy:Nat):Int),(GD l 0),(GD l 1),(GD l 2),(GD b 8),(GD b 9),(GD b 10),(GD b 11),O,O,E (some ad) n c,E (some bd) k d,I (cmpN (x) (y)),T false,O,O,E (some bd) k d,I (k:Int),T false,O,O,O,O,O,O,O,O,O,O,O,O,O,O,O,O,O,O,O,O,O,O,O,O,O,O,O,O,O,O,O,O,O,O,O,O,O,O,E (some bd) k d,E (some bd) k d,I (k:Int),I ((kk:Nat):Int),.pointer (some (bd.add kk)),.int .u32 ((yt:Nat):Int),I ((s:Nat):Int),J ((s:Nat):Int),E (some ad) n c,I (n:Int),I ((n1:Nat):Int),E (some ⟨r,0,none⟩) n1 n1,E (some bd) k d,I (k:Int),E (some ⟨t,0,none⟩) k k,E (some bd) k d,I (k:Int),(GD h 1),(GD h 2),(GD h 3),(GD h 4),(GD h 5),(GD h 6),(GD h 7),(GD h 8),(GD h 9),(GD h 10),(GD h 11),(GD h 12),(GD h 13),(GD h 14),(GD h 15),(GD h 16),(GD h 17),(GD h 18),(GD h 19),(GD h 20),(GD h 21),(GD h 22),(GD h 23),(GD h 24),(GD h 25),(GD h 26),(GD h 27),(GD h 28),(GD h 29),(GD h 30),(GD h 31),(GD h 32),(GD h 33),E (some ⟨r,0,none⟩) n1 n1,I (n1:Int),(GD f 1),(GD f 2),(GD f 3),(GD f 4),(GD f 5),(GD f 6),(GD f 7),(GD f 8),(GD f 9),(GD f 10),(GD f 11),(GD f 12),(GD f 13),(GD f 14),(GD f 15),(GD f 16),(GD f 17),(GD f 18),(GD f 19),(GD f 20),(GD f 21),(GD f 22),(GD f 23),(GD f 24),(GD f 25),(GD f 26),(GD f 27),(GD f 28),(GD f 29),(GD f 30),(GD f 31),(GD f 32),(GD f 33),(GD f 34),(GD f 35),(GD f 36),(GD f 37),E (some ⟨t,0,none⟩) k k,I (k:Int),E (some ad) n c,I (n:Int),I (k:Int),I ((nk:Nat):Int),I ((M:Nat):Int),E (some ⟨C,0,none⟩) M M,E (some ad) n c,I (n:Int),I (k:Int),I (((M:Nat):Int) - 1),I ((((pre.length+1):Nat):Int) - 1),T true,(GD b 14),(GD b 15),E (some ⟨r,0,none⟩) n1 n1,I ((pre.length:Nat):Int),I (k:Int),I ((pre.length+k:Nat):Int),.pointer (some ⟨r,(pre.length+k),none⟩),.int .u32 ((D:Nat):Int),J ((D:Nat):Int),J ((ab:Nat):Int),E (some ⟨r,0,none⟩) n1 n1,I ((pre.length:Nat):Int),I (k:Int),I ((pre.length+k:Nat):Int),I ((pre.length+kk:Nat):Int),.pointer (some ⟨r,(pre.length+kk),none⟩),.int .u32 ((F:Nat):Int),J ((F:Nat):Int),J ((hd:Nat):Int),J ((hd:Nat):Int),E (some ⟨t,0,none⟩) k k,I (k:Int),I ((kk:Nat):Int),.pointer (some ⟨t,kk,none⟩),.int .u32 ((A:Nat):Int),J ((A:Nat):Int),J ((R:Nat):Int),J ((hd:Nat):Int),E (some ⟨t,0,none⟩) k k,I (k:Int),I ((kk:Nat):Int),.pointer (some ⟨t,kk,none⟩),.int .u32 ((A:Nat):Int),J ((A:Nat):Int),J ((S:Nat):Int),(GD g 1),(GD g 2),(GD g 3),(GD g 4),(GD g 5),(GD g 6),(GD g 7),(GD g 8),(GD g 9),(GD g 10),(GD g 11),(GD g 12),(GD g 13),(GD g 14),(GD g 15),(GD g 16),(GD g 17),(GD g 18),(GD g 19),(GD g 20),(GD g 21),(GD g 22),(GD g 23),(GD g 24),(GD g 25),(GD g 26),(GD g 27),(GD g 28),(GD g 29),(GD g 30),(GD g 31),(GD g 32),(GD g 33),(GD g 34),(GD g 35),(GD g 36),I (k:Int),I ((j:Nat):Int),(GD l 3),(GD l 4),(GD l 5),(GD l 6),(GD l 7),(GD l 8),(GD l 9),(GD l 10),(GD l 11),(GD l 12),(GD l 13),(GD l 14),(GD l 15),(GD l 16),(GD l 17),(GD l 18),(GD l 19),(GD l 20),(GD l 21),(GD l 22),(GD l 23),(GD l 24),(GD l 25),(GD l 26),(GD l 27),(GD l 28),(GD l 29),(GD l 30),(GD l 31),(GD l 32),(GD l 33),(GD l 34),(GD l 35),(GD l 36),(GD l 37),(GD l 38),(GD b 123),(GD b 124),(GD b 125),(GD b 126),(GD b 127),(GD b 128),(GD b 129),(GD b 130),(GD b 131),(GD b 132),(GD b 133),(GD b 134),(GD b 135),(GD b 136),(GD b 137),(GD b 138),(GD b 139),(GD b 140),(GD b 141),(GD b 142),(GD b 143),(GD b 144),(GD b 145),(GD b 146),(GD b 147),(GD b 148),(GD b 149),(GD b 150),(GD b 151),(GD b 152),(GD b 153),(GD b 154),(GD b 155),(GD b 156),(GD b 157),(GD b 158),(GD b 159),(GD b 160),(GD b 161),(GD b 162),(GD b 163),(GD b 164),(GD b 165),(GD b 166),(GD b 167),(GD b 168),(GD b 169),(GD b 170),(GD b 171),(GD b 172),(GD b 173),(GD b 174),(GD b 175),(GD b 176),(GD b 177),(GD b 178),(GD b 179),(GD b 180),(GD b 181),(GD b 182),(GD b 183),(GD b 184),(GD b 185),(GD b 186),(GD b 187),(GD b 188),(GD b 189),O,O,O,O,O,O,O,O,O,O,O,O,O,O,O,O,O,O,O,O,O,O,O,O,O,O,O,O,O,O,O,O,O,O],[]⟩∧St w w' [⟨C,wc (outs),100⟩,⟨t,wc (vl),100⟩,⟨r,wc (pre++cur++post),100⟩]∧(j≤k)∧(br≤1)∧(cy<BW)∧(Sub wl vl q j cy br cur)∧k - j=mm) (k) ⟨0,0,0,wl,[(GD b 5),(GD b 6),(GD b 7),(GD b 87),(GD b 88),(GD b 89),(GD b 90),(GD b 91),(GD b 92),(GD b 93),(GD b 94),(GD b 95),(GD b 96),(GD b 97),(GD b 98),(GD b 99),(GD b 100),(GD b 101),(GD b 102),(GD b 103),(GD b 104),(GD b 105),(GD b 106),(GD b 107),(GD b 108),(GD b 109),(GD b 110),(GD b 111),(GD b 112),(GD b 113),(GD b 114),(GD b 115),(GD b 116),(GD b 117),(GD b 118),(GD b 119),(GD b 120),(GD b 121),(GD b 122)],rfl,ae,by omega,by omega,BW_pos,Sub.start hwD,rfl⟩ ?_
 rintro _ _ aF ⟨j,cy,br,cur,l,rfl,H,hjk,hbr,hcy,hI,rfl⟩
 refine wp_seq_k fun aG W=>?_
 refine wp_region_lit ?_
 by_cases X:(((j:Nat):Int):Int)<(k:Int)
 ·skip
  refine PV (T true) (CT (run_bin (I ((j:Nat):Int)) (I (k:Int)) _ rfl rfl rfl (bin_lss_3 _ _ _ _)) (congrArg Value.bool (decide_eq_true X))) rfl ?_
  simp only [PA]
  refine wpList_nil ?_
  refine W _ _ ?_
  refine wp_seq_k fun aH af=>?_
  refine cond_true rfl ?_
  refine wp_skip ?_
  refine af _ _ ?_
  refine wp_seq_k fun aK Y=>?_
  refine wp_block ?_
  refine wp_seq_k fun aL ag=>?_
  refine wp_region_lit ?_
  refine PV (I ((j:Nat):Int)) rfl rfl ?_
  simp only [PA]
  refine PV (I ((j:Nat):Int)) rfl rfl ?_
  simp only [PA]
  refine wpList_nil ?_
  refine ag _ _ ?_
  refine wp_seq_k fun aM ah=>?_
  refine wp_region_lit ?_
  refine PV (J ((q:Nat):Int)) rfl rfl ?_
  simp only [PA]
  refine PV (E (some ⟨t,0,none⟩) k k) rfl rfl ?_
  simp only [PA]
  refine PV (I ((j:Nat):Int)) rfl rfl ?_
  simp only [PA]
  refine PV (.pointer (some ⟨t,j,none⟩)) (run_idxB rfl rfl rfl (by omega)) rfl ?_
  simp only [PA]
  obtain ⟨yj,hyj⟩:∃ z:Nat,vl.getD j 0=z:=⟨_,rfl⟩
  have hyB:yj<BW:=hyj▸hvD.at_ j
  have hmul:=mul_lt64 hq.1 hyB
  have hma:=muladd_lt64 hq.1 hyB hcy
  refine PV (.int .u32 ((yj:Nat):Int)) (CT (run_loadB rfl rfl (H.at_ _ (MI (i:=1) rfl)) (by first | omega | (have:=hV.1; omega))) (vnat hyj)) rfl ?_
  simp only [PA]
  refine PV (J ((yj:Nat):Int)) (run_cv _ rfl rfl rfl rfl (wrap_u64 (by have:=hyB; rw [BW_eq] at this; omega))) rfl ?_
  simp only [PA]
  refine PV (J ((q * yj:Nat):Int)) (CT (run_bin (J ((q:Nat):Int)) (J ((yj:Nat):Int)) _ rfl rfl rfl (bin_mul_104 _ _ _ _)) (vint (w_mul (m:=q) (n:=yj) hmul))) rfl ?_
  simp only [PA]
  refine PV (J ((cy:Nat):Int)) rfl rfl ?_
  simp only [PA]
  obtain ⟨p,hp⟩:∃ z:Nat,cy+q * yj=z:=⟨_,rfl⟩
  rw [hp] at hma
  have hpB:=hma.2
  refine PV (J ((p:Nat):Int)) (CT (run_bin (J ((q * yj:Nat):Int)) (J ((cy:Nat):Int)) _ rfl rfl rfl (bin_add_104 _ _ _ _)) ((vint (w_add (m:=q * yj) (n:=cy) (by omega))).trans (vnat (by omega)))) rfl ?_
  simp only [PA]
  refine PV (J ((p:Nat):Int)) rfl rfl ?_
  simp only [PA]
  refine wpList_nil ?_
  refine ah _ _ ?_
  refine wp_seq_k fun aN ai=>?_
  refine wp_region_lit ?_
  refine PV (J ((p:Nat):Int)) rfl rfl ?_
  simp only [PA]
  refine PV (J ((p / BW:Nat):Int)) (CT (run_bin (J ((p:Nat):Int)) (J 32) _ rfl rfl rfl (bin_shr_104_u64 _ _ _ _)) (vint w_shr32)) rfl ?_
  simp only [PA]
  refine PV (J ((p / BW:Nat):Int)) rfl rfl ?_
  simp only [PA]
  refine wpList_nil ?_
  refine ai _ _ ?_
  refine wp_seq_k fun aP aj=>?_
  refine wp_region_lit ?_
  refine PV (E (some ⟨r,0,none⟩) n1 n1) rfl rfl ?_
  simp only [PA]
  refine PV (I ((j:Nat):Int)) rfl rfl ?_
  simp only [PA]
  refine PV (I ((pre.length:Nat):Int)) (CT rfl (vint (by omega))) rfl ?_
  simp only [PA]
  refine PV (I ((pre.length+j:Nat):Int)) (CT (run_bin (I ((j:Nat):Int)) (I ((pre.length:Nat):Int)) _ rfl rfl rfl (bin_add_3 _ _ _ _)) (vint (by rw [IntKind.wrap_i64]; omega))) rfl ?_
  simp only [PA]
  refine PV (.pointer (some ⟨r,(pre.length+j),none⟩)) (run_idxB rfl rfl rfl (by omega)) rfl ?_
  simp only [PA]
  obtain ⟨xj,hxj⟩:∃ z:Nat,wl.getD j 0=z:=⟨_,rfl⟩
  have hxB:xj<BW:=hxj▸hwD.at_ j
  refine PV (.int .u32 ((xj:Nat):Int)) (CT (run_loadWin rfl rfl (H.at_ _ (MI (i:=2) rfl)) (by first | omega | (have:=hI.1; omega))) (vnat ((hI.2.2.1 j (Nat.le_refl _)).trans hxj))) rfl ?_
  simp only [PA]
  refine PV (I ((xj:Nat):Int)) (run_cv _ rfl rfl rfl rfl (wrap_i64 (by have:=hxB; rw [BW_eq] at this; omega))) rfl ?_
  simp only [PA]
  refine PV (I ((br:Nat):Int)) rfl rfl ?_
  simp only [PA]
  refine PV (I (IntKind.i64.wrap ((((xj:Nat):Int):Int) - ((br:Nat):Int)))) (run_bin (I ((xj:Nat):Int)) (I ((br:Nat):Int)) _ rfl rfl rfl (bin_sub_2 _ _ _ _)) rfl ?_
  simp only [PA]
  refine PV (J ((p:Nat):Int)) rfl rfl ?_
  simp only [PA]
  obtain ⟨lo,hlo⟩:∃ z:Nat,p % BW=z:=⟨_,rfl⟩
  have hloB:lo<BW:=hlo▸Nat.mod_lt _ BW_pos
  refine PV (.int .u32 ((lo:Nat):Int)) (CT (run_cv _ rfl rfl rfl rfl (wrap_u32)) (vnat hlo)) rfl ?_
  simp only [PA]
  refine PV (I ((lo:Nat):Int)) (run_cv _ rfl rfl rfl rfl (wrap_i64 (by have:=hloB; rw [BW_eq] at this; omega))) rfl ?_
  simp only [PA]
  obtain ⟨e,he⟩:∃ z:Nat,(xj+BW - br - lo) % BW=z:=⟨_,rfl⟩
  have hsd:=sdiff hxB hloB hbr he
  refine PV (I (((xj:Nat):Int) - ((br:Nat):Int) - ((lo:Nat):Int))) (CT (run_bin (I (IntKind.i64.wrap ((((xj:Nat):Int):Int) - ((br:Nat):Int)))) (I ((lo:Nat):Int)) _ rfl rfl rfl (bin_sub_2 _ _ _ _)) (vint (take_word2 hxB hloB hbr))) rfl ?_
  simp only [PA]
  refine PV (I (((xj:Nat):Int) - ((br:Nat):Int) - ((lo:Nat):Int))) rfl rfl ?_
  simp only [PA]
  refine wpList_nil ?_
  refine aj _ _ ?_
  refine wp_seq_k fun aQ al=>?_
  refine wp_region_lit ?_
  refine PV (E (some ⟨r,0,none⟩) n1 n1) rfl rfl ?_
  simp only [PA]
  refine PV (I ((j:Nat):Int)) rfl rfl ?_
  simp only [PA]
  refine PV (I ((pre.length:Nat):Int)) (CT rfl (vint (by omega))) rfl ?_
  simp only [PA]
  refine PV (I ((pre.length+j:Nat):Int)) (CT (run_bin (I ((j:Nat):Int)) (I ((pre.length:Nat):Int)) _ rfl rfl rfl (bin_add_3 _ _ _ _)) (vint (by rw [IntKind.wrap_i64]; omega))) rfl ?_
  simp only [PA]
  refine PV (I (((xj:Nat):Int) - ((br:Nat):Int) - ((lo:Nat):Int))) rfl rfl ?_
  simp only [PA]
  refine PV (.int .u32 ((e:Nat):Int)) (CT (run_cv _ rfl rfl rfl rfl rfl) (vint hsd.1)) rfl ?_
  simp only [PA]
  refine PV (.pointer (some ⟨r,(pre.length+j),none⟩)) (run_idxB rfl rfl rfl (by omega)) rfl ?_
  simp only [PA]
  refine wpList_plain rfl fun K hK=>o_stWin 2 (e) ([⟨C,wc (outs),100⟩,⟨t,wc (vl),100⟩,⟨r,wc (pre++((cur).set ((j)) (e))++post),100⟩]) rfl rfl rfl H rfl (by first | omega | (have:=hI.1; omega)) rfl fun aR aa=>hK _ _ ?_
  simp only [PA]
  refine wpList_nil ?_
  refine al _ _ ?_
  refine wp_seq_k fun aS am=>?_
  refine wp_region_lit ?_
  refine PV (I 0) rfl rfl ?_
  simp only [PA]
  refine wpList_nil ?_
  refine am _ _ ?_
  refine wp_seq_k fun aU ac=>?_
  refine wp_region_lit ?_
  refine PV (I (((xj:Nat):Int) - ((br:Nat):Int) - ((lo:Nat):Int))) rfl rfl ?_
  simp only [PA]
  by_cases hneg:((((xj:Nat):Int) - ((br:Nat):Int) - ((lo:Nat):Int)):Int)<0
  ·skip
   refine PV (T true) (CT (run_bin (I (((xj:Nat):Int) - ((br:Nat):Int) - ((lo:Nat):Int))) (I 0) _ rfl rfl rfl (bin_lss_2 _ _ _ _)) (congrArg Value.bool (decide_eq_true hneg))) rfl ?_
   simp only [PA]
   refine wpList_nil ?_
   refine ac _ _ ?_
   refine cond_true rfl ?_
   refine wp_region_lit ?_
   refine PV (I 1) rfl rfl ?_
   simp only [PA]
   refine wpList_nil ?_
   refine Y _ _ ?_
   refine wp_region_lit ?_
   refine PV (I ((j+1:Nat):Int)) (CT (run_bin (I ((j:Nat):Int)) (I 1) _ rfl rfl rfl (bin_add_3 _ _ _ _)) (vint (i_add (m:=j) (n:=1) (by omega)))) rfl ?_
   simp only [PA]
   refine PV (I ((j+1:Nat):Int)) rfl rfl ?_
   simp only [PA]
   refine wpList_nil ?_
   exact ⟨k - (j+1),by omega,j+1,p / BW,1,((cur).set ((j)) (e)),[I ((j:Nat):Int),J ((p:Nat):Int),I (((xj:Nat):Int) - ((br:Nat):Int) - ((lo:Nat):Int)),T true,I ((j:Nat):Int),J ((q:Nat):Int),E (some ⟨t,0,none⟩) k k,I ((j:Nat):Int),.pointer (some ⟨t,j,none⟩),.int .u32 ((yj:Nat):Int),J ((yj:Nat):Int),J ((q * yj:Nat):Int),J ((cy:Nat):Int),J ((p:Nat):Int),J ((p:Nat):Int),J ((p / BW:Nat):Int),E (some ⟨r,0,none⟩) n1 n1,I ((j:Nat):Int),I ((pre.length:Nat):Int),I ((pre.length+j:Nat):Int),.pointer (some ⟨r,(pre.length+j),none⟩),.int .u32 ((xj:Nat):Int),I ((xj:Nat):Int),I ((br:Nat):Int),I (IntKind.i64.wrap ((((xj:Nat):Int):Int) - ((br:Nat):Int))),J ((p:Nat):Int),.int .u32 ((lo:Nat):Int),I ((lo:Nat):Int),I (((xj:Nat):Int) - ((br:Nat):Int) - ((lo:Nat):Int)),E (some ⟨r,0,none⟩) n1 n1,I ((j:Nat):Int),I ((pre.length:Nat):Int),I ((pre.length+j:Nat):Int),I (((xj:Nat):Int) - ((br:Nat):Int) - ((lo:Nat):Int)),.int .u32 ((e:Nat):Int),.pointer (some ⟨r,(pre.length+j),none⟩),I (((xj:Nat):Int) - ((br:Nat):Int) - ((lo:Nat):Int)),T true,I ((j+1:Nat):Int)],rfl,aa,by omega,by omega,hpB,hI.next (lo:=lo) (by omega) hxj hyj hsd.2 (by rw [hp,← hlo]; exact (Nat.mod_add_div _ _).symm) (by first | exact sdiff_n hxB hloB hbr he hneg | exact sdiff_p hxB hloB hbr he hneg),rfl⟩
  ·skip
   refine PV (T false) (CT (run_bin (I (((xj:Nat):Int) - ((br:Nat):Int) - ((lo:Nat):Int))) (I 0) _ rfl rfl rfl (bin_lss_2 _ _ _ _)) (congrArg Value.bool (decide_eq_false hneg))) rfl ?_
   simp only [PA]
   refine wpList_nil ?_
   refine ac _ _ ?_
   refine cond_false rfl ?_
   refine wp_skip ?_
   refine Y _ _ ?_
   refine wp_region_lit ?_
   refine PV (I ((j+1:Nat):Int)) (CT (run_bin (I ((j:Nat):Int)) (I 1) _ rfl rfl rfl (bin_add_3 _ _ _ _)) (vint (i_add (m:=j) (n:=1) (by omega)))) rfl ?_
   simp only [PA]
   refine PV (I ((j+1:Nat):Int)) rfl rfl ?_
   simp only [PA]
   refine wpList_nil ?_
   exact ⟨k - (j+1),by omega,j+1,p / BW,0,((cur).set ((j)) (e)),[I ((j:Nat):Int),J ((p:Nat):Int),I (((xj:Nat):Int) - ((br:Nat):Int) - ((lo:Nat):Int)),T true,I ((j:Nat):Int),J ((q:Nat):Int),E (some ⟨t,0,none⟩) k k,I ((j:Nat):Int),.pointer (some ⟨t,j,none⟩),.int .u32 ((yj:Nat):Int),J ((yj:Nat):Int),J ((q * yj:Nat):Int),J ((cy:Nat):Int),J ((p:Nat):Int),J ((p:Nat):Int),J ((p / BW:Nat):Int),E (some ⟨r,0,none⟩) n1 n1,I ((j:Nat):Int),I ((pre.length:Nat):Int),I ((pre.length+j:Nat):Int),.pointer (some ⟨r,(pre.length+j),none⟩),.int .u32 ((xj:Nat):Int),I ((xj:Nat):Int),I ((br:Nat):Int),I (IntKind.i64.wrap ((((xj:Nat):Int):Int) - ((br:Nat):Int))),J ((p:Nat):Int),.int .u32 ((lo:Nat):Int),I ((lo:Nat):Int),I (((xj:Nat):Int) - ((br:Nat):Int) - ((lo:Nat):Int)),E (some ⟨r,0,none⟩) n1 n1,I ((j:Nat):Int),I ((pre.length:Nat):Int),I ((pre.length+j:Nat):Int),I (((xj:Nat):Int) - ((br:Nat):Int) - ((lo:Nat):Int)),.int .u32 ((e:Nat):Int),.pointer (some ⟨r,(pre.length+j),none⟩),I (((xj:Nat):Int) - ((br:Nat):Int) - ((lo:Nat):Int)),T false,I ((j+1:Nat):Int)],rfl,aa,by omega,by omega,hpB,hI.next (lo:=lo) (by omega) hxj hyj hsd.2 (by rw [hp,← hlo]; exact (Nat.mod_add_div _ _).symm) (by first | exact sdiff_n hxB hloB hbr he hneg | exact sdiff_p hxB hloB hbr he hneg),rfl⟩
 ·skip
  refine PV (T false) (CT (run_bin (I ((j:Nat):Int)) (I (k:Int)) _ rfl rfl rfl (bin_lss_3 _ _ _ _)) (congrArg Value.bool (decide_eq_false X))) rfl ?_
  simp only [PA]
  refine wpList_nil ?_
  refine W _ _ ?_
  refine wp_seq_k fun aV aW=>?_
  refine cond_false rfl ?_
  refine wp_exit ?_
  exact ⟨j,cy,br,cur,[(GD l 0),(GD l 1),(GD l 2),I ((j:Nat):Int),T false,(GD l 4),(GD l 5),(GD l 6),(GD l 7),(GD l 8),(GD l 9),(GD l 10),(GD l 11),(GD l 12),(GD l 13),(GD l 14),(GD l 15),(GD l 16),(GD l 17),(GD l 18),(GD l 19),(GD l 20),(GD l 21),(GD l 22),(GD l 23),(GD l 24),(GD l 25),(GD l 26),(GD l 27),(GD l 28),(GD l 29),(GD l 30),(GD l 31),(GD l 32),(GD l 33),(GD l 34),(GD l 35),(GD l 36),(GD l 37),(GD l 38)],rfl,H,by omega,hbr,hcy,hI,trivial⟩
end Go.Proofs.Ythhgjloephkpaaa
namespace Go.Proofs.Ythhgjloephkpaaa
set_option linter.unusedVariables false
set_option linter.unusedSimpArgs false
open Go Go.RowKit Go.Proofs.YthhgjloephkpaaaW.PrintWords Go.Proofs.YthhgjloephkpaaaW.PrintLast
set_option maxRecDepth 100000 in
set_option maxHeartbeats 8000000 in
theorem qc_back {ad bd:Addr} {n n1 k c d x y kk k2 nk M yt s:Nat} {w:World} (hx:Wds w (some ad) n c (dg x)) (hy:Wds w (some bd) k d (dg y)) (hk:2≤k) (hkn:k≤n) (hnm:n≤1000000000) (hkk:kk+1=k) (aB:k2+2=k) (aE:n1=n+1) (hnk:nk+k=n) (hM:M=nk+1) (hxl:(dg x).length=n) (hyl:(dg y).length=k) (aI:s≤31) (aT:min s 32=s) (aO:min (32 - s) 32=32 - s) {vl:List Nat} (hvlen:vl.length=k) (hvD:Dig vl) (hYl:BW ^ (k - 1) * 2 ^ 31≤val vl) (hYBv:val vl<BW ^ k) {C Y a2 H v2 hd P:Nat} {pre wl post outs:List Nat} (hwl:wl.length=k+1) (hwD:Dig wl) (ae:wl.getD k 0=C) (aJ:wl.getD k2 0=a2) (aZ:vl.getD kk 0=H) (a3:vl.getD k2 0=v2) (af:C<BW) (a4:a2<BW) (a5:H<BW) (a6:v2<BW) (a7:2147483648≤H) (G:Guess (val wl) (val vl) hd H v2 a2 P) (htM:pre.length+1≤M) {q:Nat} (hq:q<BW∧val wl / val vl≤q∧q≤val wl / val vl+1) {cy br R:Nat} {cur:List Nat} (hbr:br≤1) (hcy:cy<BW) (hIk:Sub wl vl q k cy br cur) (ag:(C+BW - br - cy) % BW=R) (ah:IntKind.u32.wrap (((C:Nat):Int) - ((br:Nat):Int) - ((cy:Nat):Int))=((R:Nat):Int)∧R<BW) {N D p ab q0 r0:Nat} {b g e l f:List Value} {az:World} (aK:St w az [⟨N,wc (outs),100⟩,⟨D,wc (vl),100⟩,⟨p,wc (pre++((cur).set ((k)) (R))++post),100⟩]) {Q:Exit→Act→World→Prop} (hQp:∀ c (a:Act) d v w,Q (.panic c) (a.put d v) w→Q (.panic c) a w) :
  (pL (pR (pR (pR (pR (pR (pR (pR (pB (pL (pR (pB (pB (pR (pL (pR (pR (pR (pR (pR (pR (pR (pR (pR (pR (pF Try.f117)))))))))))))))))))))))))).wp Try.prog (Exit.then (fun aa_ w'=>∃ (q2:Nat) (rl:List Nat) (t:List Value),aa_=⟨#[E (some ad) n c,E (some bd) k d,O,O,E none 0 0,E none 0 0,O,O,O,O,J ((s:Nat):Int),E (some ⟨p,0,none⟩) n1 n1,E (some ⟨D,0,none⟩) k k,(GD l 0),(GD f 0),I (k:Int),E (some ⟨N,0,none⟩) M M,I ((((pre.length+1):Nat):Int) - 1),J ((hd:Nat):Int),J ((q2:Nat):Int),(GD g 0),I ((br:Nat):Int),J ((cy:Nat):Int),(GD e 0),(GD e 1),(GD e 2),I (((C:Nat):Int) - ((br:Nat):Int) - ((cy:Nat):Int)),(GD t 0),(GD t 1),(GD t 2),O,O,E (some ad) n c,E (some bd) k d,I (cmpN (x) (y)),T false,O,O,E (some bd) k d,I (k:Int),T false,O,O,O,O,O,O,O,O,O,O,O,O,O,O,O,O,O,O,O,O,O,O,O,O,O,O,O,O,O,O,O,O,O,O,O,O,O,O,E (some bd) k d,E (some bd) k d,I (k:Int),I ((kk:Nat):Int),.pointer (some (bd.add kk)),.int .u32 ((yt:Nat):Int),I ((s:Nat):Int),J ((s:Nat):Int),E (some ad) n c,I (n:Int),I ((n1:Nat):Int),E (some ⟨p,0,none⟩) n1 n1,E (some bd) k d,I (k:Int),E (some ⟨D,0,none⟩) k k,E (some bd) k d,I (k:Int),(GD l 1),(GD l 2),(GD l 3),(GD l 4),(GD l 5),(GD l 6),(GD l 7),(GD l 8),(GD l 9),(GD l 10),(GD l 11),(GD l 12),(GD l 13),(GD l 14),(GD l 15),(GD l 16),(GD l 17),(GD l 18),(GD l 19),(GD l 20),(GD l 21),(GD l 22),(GD l 23),(GD l 24),(GD l 25),(GD l 26),(GD l 27),(GD l 28),(GD l 29),(GD l 30),(GD l 31),(GD l 32),(GD l 33),E (some ⟨p,0,none⟩) n1 n1,I (n1:Int),(GD f 1),(GD f 2),(GD f 3),(GD f 4),(GD f 5),(GD f 6),(GD f 7),(GD f 8),(GD f 9),(GD f 10),(GD f 11),(GD f 12),(GD f 13),(GD f 14),(GD f 15),(GD f 16),(GD f 17),(GD f 18),(GD f 19),(GD f 20),(GD f 21),(GD f 22),(GD f 23),(GD f 24),(GD f 25),(GD f 26),(GD f 27),(GD f 28),(GD f 29),(GD f 30),(GD f 31),(GD f 32),(GD f 33),(GD f 34),(GD f 35),(GD f 36),(GD f 37),E (some ⟨D,0,none⟩) k k,I (k:Int),E (some ad) n c,I (n:Int),I (k:Int),I ((nk:Nat):Int),I ((M:Nat):Int),E (some ⟨N,0,none⟩) M M,E (some ad) n c,I (n:Int),I (k:Int),I (((M:Nat):Int) - 1),I ((((pre.length+1):Nat):Int) - 1),T true,(GD b 14),(GD b 15),E (some ⟨p,0,none⟩) n1 n1,I ((pre.length:Nat):Int),I (k:Int),I ((pre.length+k:Nat):Int),.pointer (some ⟨p,(pre.length+k),none⟩),.int .u32 ((C:Nat):Int),J ((C:Nat):Int),J ((ab:Nat):Int),E (some ⟨p,0,none⟩) n1 n1,I ((pre.length:Nat):Int),I (k:Int),I ((pre.length+k:Nat):Int),I ((pre.length+kk:Nat):Int),.pointer (some ⟨p,(pre.length+kk),none⟩),.int .u32 ((Y:Nat):Int),J ((Y:Nat):Int),J ((hd:Nat):Int),J ((hd:Nat):Int),E (some ⟨D,0,none⟩) k k,I (k:Int),I ((kk:Nat):Int),.pointer (some ⟨D,kk,none⟩),.int .u32 ((H:Nat):Int),J ((H:Nat):Int),J ((q0:Nat):Int),J ((hd:Nat):Int),E (some ⟨D,0,none⟩) k k,I (k:Int),I ((kk:Nat):Int),.pointer (some ⟨D,kk,none⟩),.int .u32 ((H:Nat):Int),J ((H:Nat):Int),J ((r0:Nat):Int),(GD g 1),(GD g 2),(GD g 3),(GD g 4),(GD g 5),(GD g 6),(GD g 7),(GD g 8),(GD g 9),(GD g 10),(GD g 11),(GD g 12),(GD g 13),(GD g 14),(GD g 15),(GD g 16),(GD g 17),(GD g 18),(GD g 19),(GD g 20),(GD g 21),(GD g 22),(GD g 23),(GD g 24),(GD g 25),(GD g 26),(GD g 27),(GD g 28),(GD g 29),(GD g 30),(GD g 31),(GD g 32),(GD g 33),(GD g 34),(GD g 35),(GD g 36),I (k:Int),(GD e 3),(GD e 4),(GD e 5),(GD e 6),(GD e 7),(GD e 8),(GD e 9),(GD e 10),(GD e 11),(GD e 12),(GD e 13),(GD e 14),(GD e 15),(GD e 16),(GD e 17),(GD e 18),(GD e 19),(GD e 20),(GD e 21),(GD e 22),(GD e 23),(GD e 24),(GD e 25),(GD e 26),(GD e 27),(GD e 28),(GD e 29),(GD e 30),(GD e 31),(GD e 32),(GD e 33),(GD e 34),(GD e 35),(GD e 36),(GD e 37),(GD e 38),(GD e 39),E (some ⟨p,0,none⟩) n1 n1,I ((pre.length:Nat):Int),I (k:Int),I ((pre.length+k:Nat):Int),.pointer (some ⟨p,(pre.length+k),none⟩),.int .u32 ((C:Nat):Int),I ((C:Nat):Int),I ((br:Nat):Int),I (IntKind.i64.wrap ((((C:Nat):Int):Int) - ((br:Nat):Int))),J ((cy:Nat):Int),I ((cy:Nat):Int),I (((C:Nat):Int) - ((br:Nat):Int) - ((cy:Nat):Int)),E (some ⟨p,0,none⟩) n1 n1,I ((pre.length:Nat):Int),I (k:Int),I ((pre.length+k:Nat):Int),I (((C:Nat):Int) - ((br:Nat):Int) - ((cy:Nat):Int)),.int .u32 ((R:Nat):Int),.pointer (some ⟨p,(pre.length+k),none⟩),(GD t 3),(GD t 4),(GD t 5),(GD t 6),(GD t 7),(GD t 8),(GD t 9),(GD t 10),(GD t 11),(GD t 12),(GD t 13),(GD t 14),(GD t 15),(GD t 16),(GD t 17),(GD t 18),(GD t 19),(GD t 20),(GD t 21),(GD t 22),(GD t 23),(GD t 24),(GD t 25),(GD t 26),(GD t 27),(GD t 28),(GD t 29),(GD t 30),(GD t 31),(GD t 32),(GD t 33),(GD t 34),(GD t 35),(GD t 36),(GD t 37),(GD t 38),(GD t 39),(GD t 40),(GD t 41),(GD t 42),(GD t 43),(GD t 44),(GD t 45),(GD b 185),(GD b 186),(GD b 187),(GD b 188),(GD b 189),O,O,O,O,O,O,O,O,O,O,O,O,O,O,O,O,O,O,O,O,O,O,O,O,O,O,O,O,O,O,O,O,O,O],[]⟩∧St w w' [⟨N,wc (outs),100⟩,⟨D,wc (vl),100⟩,⟨p,wc (pre++rl++post),100⟩]∧(q2=val wl / val vl)∧(q2<BW)∧(rl.length=k+1)∧(Dig rl)∧(val rl=val wl % val vl)∧True) Q) ⟨#[E (some ad) n c,E (some bd) k d,O,O,E none 0 0,E none 0 0,O,O,O,O,J ((s:Nat):Int),E (some ⟨p,0,none⟩) n1 n1,E (some ⟨D,0,none⟩) k k,(GD l 0),(GD f 0),I (k:Int),E (some ⟨N,0,none⟩) M M,I ((((pre.length+1):Nat):Int) - 1),J ((hd:Nat):Int),J ((q:Nat):Int),(GD g 0),I ((br:Nat):Int),J ((cy:Nat):Int),(GD e 0),(GD e 1),(GD e 2),I (((C:Nat):Int) - ((br:Nat):Int) - ((cy:Nat):Int)),(GD b 9),(GD b 10),(GD b 11),O,O,E (some ad) n c,E (some bd) k d,I (cmpN (x) (y)),T false,O,O,E (some bd) k d,I (k:Int),T false,O,O,O,O,O,O,O,O,O,O,O,O,O,O,O,O,O,O,O,O,O,O,O,O,O,O,O,O,O,O,O,O,O,O,O,O,O,O,E (some bd) k d,E (some bd) k d,I (k:Int),I ((kk:Nat):Int),.pointer (some (bd.add kk)),.int .u32 ((yt:Nat):Int),I ((s:Nat):Int),J ((s:Nat):Int),E (some ad) n c,I (n:Int),I ((n1:Nat):Int),E (some ⟨p,0,none⟩) n1 n1,E (some bd) k d,I (k:Int),E (some ⟨D,0,none⟩) k k,E (some bd) k d,I (k:Int),(GD l 1),(GD l 2),(GD l 3),(GD l 4),(GD l 5),(GD l 6),(GD l 7),(GD l 8),(GD l 9),(GD l 10),(GD l 11),(GD l 12),(GD l 13),(GD l 14),(GD l 15),(GD l 16),(GD l 17),(GD l 18),(GD l 19),(GD l 20),(GD l 21),(GD l 22),(GD l 23),(GD l 24),(GD l 25),(GD l 26),(GD l 27),(GD l 28),(GD l 29),(GD l 30),(GD l 31),(GD l 32),(GD l 33),E (some ⟨p,0,none⟩) n1 n1,I (n1:Int),(GD f 1),(GD f 2),(GD f 3),(GD f 4),(GD f 5),(GD f 6),(GD f 7),(GD f 8),(GD f 9),(GD f 10),(GD f 11),(GD f 12),(GD f 13),(GD f 14),(GD f 15),(GD f 16),(GD f 17),(GD f 18),(GD f 19),(GD f 20),(GD f 21),(GD f 22),(GD f 23),(GD f 24),(GD f 25),(GD f 26),(GD f 27),(GD f 28),(GD f 29),(GD f 30),(GD f 31),(GD f 32),(GD f 33),(GD f 34),(GD f 35),(GD f 36),(GD f 37),E (some ⟨D,0,none⟩) k k,I (k:Int),E (some ad) n c,I (n:Int),I (k:Int),I ((nk:Nat):Int),I ((M:Nat):Int),E (some ⟨N,0,none⟩) M M,E (some ad) n c,I (n:Int),I (k:Int),I (((M:Nat):Int) - 1),I ((((pre.length+1):Nat):Int) - 1),T true,(GD b 14),(GD b 15),E (some ⟨p,0,none⟩) n1 n1,I ((pre.length:Nat):Int),I (k:Int),I ((pre.length+k:Nat):Int),.pointer (some ⟨p,(pre.length+k),none⟩),.int .u32 ((C:Nat):Int),J ((C:Nat):Int),J ((ab:Nat):Int),E (some ⟨p,0,none⟩) n1 n1,I ((pre.length:Nat):Int),I (k:Int),I ((pre.length+k:Nat):Int),I ((pre.length+kk:Nat):Int),.pointer (some ⟨p,(pre.length+kk),none⟩),.int .u32 ((Y:Nat):Int),J ((Y:Nat):Int),J ((hd:Nat):Int),J ((hd:Nat):Int),E (some ⟨D,0,none⟩) k k,I (k:Int),I ((kk:Nat):Int),.pointer (some ⟨D,kk,none⟩),.int .u32 ((H:Nat):Int),J ((H:Nat):Int),J ((q0:Nat):Int),J ((hd:Nat):Int),E (some ⟨D,0,none⟩) k k,I (k:Int),I ((kk:Nat):Int),.pointer (some ⟨D,kk,none⟩),.int .u32 ((H:Nat):Int),J ((H:Nat):Int),J ((r0:Nat):Int),(GD g 1),(GD g 2),(GD g 3),(GD g 4),(GD g 5),(GD g 6),(GD g 7),(GD g 8),(GD g 9),(GD g 10),(GD g 11),(GD g 12),(GD g 13),(GD g 14),(GD g 15),(GD g 16),(GD g 17),(GD g 18),(GD g 19),(GD g 20),(GD g 21),(GD g 22),(GD g 23),(GD g 24),(GD g 25),(GD g 26),(GD g 27),(GD g 28),(GD g 29),(GD g 30),(GD g 31),(GD g 32),(GD g 33),(GD g 34),(GD g 35),(GD g 36),I (k:Int),(GD e 3),(GD e 4),(GD e 5),(GD e 6),(GD e 7),(GD e 8),(GD e 9),(GD e 10),(GD e 11),(GD e 12),(GD e 13),(GD e 14),(GD e 15),(GD e 16),(GD e 17),(GD e 18),(GD e 19),(GD e 20),(GD e 21),(GD e 22),(GD e 23),(GD e 24),(GD e 25),(GD e 26),(GD e 27),(GD e 28),(GD e 29),(GD e 30),(GD e 31),(GD e 32),(GD e 33),(GD e 34),(GD e 35),(GD e 36),(GD e 37),(GD e 38),(GD e 39),E (some ⟨p,0,none⟩) n1 n1,I ((pre.length:Nat):Int),I (k:Int),I ((pre.length+k:Nat):Int),.pointer (some ⟨p,(pre.length+k),none⟩),.int .u32 ((C:Nat):Int),I ((C:Nat):Int),I ((br:Nat):Int),I (IntKind.i64.wrap ((((C:Nat):Int):Int) - ((br:Nat):Int))),J ((cy:Nat):Int),I ((cy:Nat):Int),I (((C:Nat):Int) - ((br:Nat):Int) - ((cy:Nat):Int)),E (some ⟨p,0,none⟩) n1 n1,I ((pre.length:Nat):Int),I (k:Int),I ((pre.length+k:Nat):Int),I (((C:Nat):Int) - ((br:Nat):Int) - ((cy:Nat):Int)),.int .u32 ((R:Nat):Int),.pointer (some ⟨p,(pre.length+k),none⟩),(GD b 142),(GD b 143),(GD b 144),(GD b 145),(GD b 146),(GD b 147),(GD b 148),(GD b 149),(GD b 150),(GD b 151),(GD b 152),(GD b 153),(GD b 154),(GD b 155),(GD b 156),(GD b 157),(GD b 158),(GD b 159),(GD b 160),(GD b 161),(GD b 162),(GD b 163),(GD b 164),(GD b 165),(GD b 166),(GD b 167),(GD b 168),(GD b 169),(GD b 170),(GD b 171),(GD b 172),(GD b 173),(GD b 174),(GD b 175),(GD b 176),(GD b 177),(GD b 178),(GD b 179),(GD b 180),(GD b 181),(GD b 182),(GD b 183),(GD b 184),(GD b 185),(GD b 186),(GD b 187),(GD b 188),(GD b 189),O,O,O,O,O,O,O,O,O,O,O,O,O,O,O,O,O,O,O,O,O,O,O,O,O,O,O,O,O,O,O,O,O,O],[]⟩ az:=by
 show (Code.seq _ _).wp _ _ _ _
 refine wp_seq_k fun a8 aA=>?_
 refine wp_region_lit ?_
 obtain ⟨S,aa⟩:∃ z,cur.set k R=z:=⟨_,rfl⟩
 have aC:=aa▸aK
 refine PV (I (((C:Nat):Int) - ((br:Nat):Int) - ((cy:Nat):Int))) rfl rfl ?_
 simp only [PA]
 by_cases X:((((C:Nat):Int) - ((br:Nat):Int) - ((cy:Nat):Int)):Int)<0
 ·skip
  refine PV (T true) (CT (run_bin (I (((C:Nat):Int) - ((br:Nat):Int) - ((cy:Nat):Int))) (I 0) _ rfl rfl rfl (bin_lss_2 _ _ _ _)) (congrArg Value.bool (decide_eq_true X))) rfl ?_
  simp only [PA]
  refine wpList_nil ?_
  refine aA _ _ ?_
  refine cond_true rfl ?_
  refine wp_seq_k fun a9 aL=>?_
  refine wp_region_lit ?_
  have ac:Sub wl vl q (k+1) 0 1 S:=aa▸sub_top hIk (by omega) hvlen ae ah.2 hcy (sdiff_n af hcy hbr ag X)
  have hc2l:S.length=k+1:=by rw [ac.1]; exact hwl
  have hq0_:1≤q:=sub_pos ac hwl hvlen
  refine PV (J ((q:Nat):Int)) rfl rfl ?_
  simp only [PA]
  refine PV (J ((q - 1:Nat):Int)) (CT (run_bin (J ((q:Nat):Int)) (J 1) _ rfl rfl rfl (bin_sub_104 _ _ _ _)) (vint (w_sub (m:=q) (n:=1) hq0_ (by have:=hq.1; rw [BW_eq] at this; omega)))) rfl ?_
  simp only [PA]
  refine PV (J ((q - 1:Nat):Int)) rfl rfl ?_
  simp only [PA]
  refine wpList_nil ?_
  refine aL _ _ ?_
  refine wp_seq_k fun ba aM=>?_
  refine wp_region_lit ?_
  refine PV (J 0) rfl rfl ?_
  simp only [PA]
  refine wpList_nil ?_
  refine aM _ _ ?_
  refine wp_seq_k fun bb aN=>?_
  refine wp_seq_k fun bc aP=>?_
  refine wp_region_lit ?_
  refine PV (I (k:Int)) rfl rfl ?_
  simp only [PA]
  refine PV (I 0) rfl rfl ?_
  simp only [PA]
  refine wpList_nil ?_
  refine aP _ _ ?_
  refine wp_block ?_
  refine wp_loop_g (fun mm aa_ w'=>∃ (A:Nat) (F:Nat) (V:List Nat) (o:List Value),aa_=⟨#[E (some ad) n c,E (some bd) k d,O,O,E none 0 0,E none 0 0,O,O,O,O,J ((s:Nat):Int),E (some ⟨p,0,none⟩) n1 n1,E (some ⟨D,0,none⟩) k k,(GD l 0),(GD f 0),I (k:Int),E (some ⟨N,0,none⟩) M M,I ((((pre.length+1):Nat):Int) - 1),J ((hd:Nat):Int),J ((q - 1:Nat):Int),(GD g 0),I ((br:Nat):Int),J ((cy:Nat):Int),(GD e 0),(GD e 1),(GD e 2),I (((C:Nat):Int) - ((br:Nat):Int) - ((cy:Nat):Int)),J ((F:Nat):Int),(GD o 0),(GD o 1),O,O,E (some ad) n c,E (some bd) k d,I (cmpN (x) (y)),T false,O,O,E (some bd) k d,I (k:Int),T false,O,O,O,O,O,O,O,O,O,O,O,O,O,O,O,O,O,O,O,O,O,O,O,O,O,O,O,O,O,O,O,O,O,O,O,O,O,O,E (some bd) k d,E (some bd) k d,I (k:Int),I ((kk:Nat):Int),.pointer (some (bd.add kk)),.int .u32 ((yt:Nat):Int),I ((s:Nat):Int),J ((s:Nat):Int),E (some ad) n c,I (n:Int),I ((n1:Nat):Int),E (some ⟨p,0,none⟩) n1 n1,E (some bd) k d,I (k:Int),E (some ⟨D,0,none⟩) k k,E (some bd) k d,I (k:Int),(GD l 1),(GD l 2),(GD l 3),(GD l 4),(GD l 5),(GD l 6),(GD l 7),(GD l 8),(GD l 9),(GD l 10),(GD l 11),(GD l 12),(GD l 13),(GD l 14),(GD l 15),(GD l 16),(GD l 17),(GD l 18),(GD l 19),(GD l 20),(GD l 21),(GD l 22),(GD l 23),(GD l 24),(GD l 25),(GD l 26),(GD l 27),(GD l 28),(GD l 29),(GD l 30),(GD l 31),(GD l 32),(GD l 33),E (some ⟨p,0,none⟩) n1 n1,I (n1:Int),(GD f 1),(GD f 2),(GD f 3),(GD f 4),(GD f 5),(GD f 6),(GD f 7),(GD f 8),(GD f 9),(GD f 10),(GD f 11),(GD f 12),(GD f 13),(GD f 14),(GD f 15),(GD f 16),(GD f 17),(GD f 18),(GD f 19),(GD f 20),(GD f 21),(GD f 22),(GD f 23),(GD f 24),(GD f 25),(GD f 26),(GD f 27),(GD f 28),(GD f 29),(GD f 30),(GD f 31),(GD f 32),(GD f 33),(GD f 34),(GD f 35),(GD f 36),(GD f 37),E (some ⟨D,0,none⟩) k k,I (k:Int),E (some ad) n c,I (n:Int),I (k:Int),I ((nk:Nat):Int),I ((M:Nat):Int),E (some ⟨N,0,none⟩) M M,E (some ad) n c,I (n:Int),I (k:Int),I (((M:Nat):Int) - 1),I ((((pre.length+1):Nat):Int) - 1),T true,(GD b 14),(GD b 15),E (some ⟨p,0,none⟩) n1 n1,I ((pre.length:Nat):Int),I (k:Int),I ((pre.length+k:Nat):Int),.pointer (some ⟨p,(pre.length+k),none⟩),.int .u32 ((C:Nat):Int),J ((C:Nat):Int),J ((ab:Nat):Int),E (some ⟨p,0,none⟩) n1 n1,I ((pre.length:Nat):Int),I (k:Int),I ((pre.length+k:Nat):Int),I ((pre.length+kk:Nat):Int),.pointer (some ⟨p,(pre.length+kk),none⟩),.int .u32 ((Y:Nat):Int),J ((Y:Nat):Int),J ((hd:Nat):Int),J ((hd:Nat):Int),E (some ⟨D,0,none⟩) k k,I (k:Int),I ((kk:Nat):Int),.pointer (some ⟨D,kk,none⟩),.int .u32 ((H:Nat):Int),J ((H:Nat):Int),J ((q0:Nat):Int),J ((hd:Nat):Int),E (some ⟨D,0,none⟩) k k,I (k:Int),I ((kk:Nat):Int),.pointer (some ⟨D,kk,none⟩),.int .u32 ((H:Nat):Int),J ((H:Nat):Int),J ((r0:Nat):Int),(GD g 1),(GD g 2),(GD g 3),(GD g 4),(GD g 5),(GD g 6),(GD g 7),(GD g 8),(GD g 9),(GD g 10),(GD g 11),(GD g 12),(GD g 13),(GD g 14),(GD g 15),(GD g 16),(GD g 17),(GD g 18),(GD g 19),(GD g 20),(GD g 21),(GD g 22),(GD g 23),(GD g 24),(GD g 25),(GD g 26),(GD g 27),(GD g 28),(GD g 29),(GD g 30),(GD g 31),(GD g 32),(GD g 33),(GD g 34),(GD g 35),(GD g 36),I (k:Int),(GD e 3),(GD e 4),(GD e 5),(GD e 6),(GD e 7),(GD e 8),(GD e 9),(GD e 10),(GD e 11),(GD e 12),(GD e 13),(GD e 14),(GD e 15),(GD e 16),(GD e 17),(GD e 18),(GD e 19),(GD e 20),(GD e 21),(GD e 22),(GD e 23),(GD e 24),(GD e 25),(GD e 26),(GD e 27),(GD e 28),(GD e 29),(GD e 30),(GD e 31),(GD e 32),(GD e 33),(GD e 34),(GD e 35),(GD e 36),(GD e 37),(GD e 38),(GD e 39),E (some ⟨p,0,none⟩) n1 n1,I ((pre.length:Nat):Int),I (k:Int),I ((pre.length+k:Nat):Int),.pointer (some ⟨p,(pre.length+k),none⟩),.int .u32 ((C:Nat):Int),I ((C:Nat):Int),I ((br:Nat):Int),I (IntKind.i64.wrap ((((C:Nat):Int):Int) - ((br:Nat):Int))),J ((cy:Nat):Int),I ((cy:Nat):Int),I (((C:Nat):Int) - ((br:Nat):Int) - ((cy:Nat):Int)),E (some ⟨p,0,none⟩) n1 n1,I ((pre.length:Nat):Int),I (k:Int),I ((pre.length+k:Nat):Int),I (((C:Nat):Int) - ((br:Nat):Int) - ((cy:Nat):Int)),.int .u32 ((R:Nat):Int),.pointer (some ⟨p,(pre.length+k),none⟩),I (((C:Nat):Int) - ((br:Nat):Int) - ((cy:Nat):Int)),T true,J ((q:Nat):Int),J ((q - 1:Nat):Int),I (k:Int),I ((A:Nat):Int),(GD o 2),(GD o 3),(GD o 4),(GD o 5),(GD o 6),(GD o 7),(GD o 8),(GD o 9),(GD o 10),(GD o 11),(GD o 12),(GD o 13),(GD o 14),(GD o 15),(GD o 16),(GD o 17),(GD o 18),(GD o 19),(GD o 20),(GD o 21),(GD o 22),(GD o 23),(GD o 24),(GD o 25),(GD o 26),(GD o 27),(GD o 28),(GD b 175),(GD b 176),(GD b 177),(GD b 178),(GD b 179),(GD b 180),(GD b 181),(GD b 182),(GD b 183),(GD b 184),(GD b 185),(GD b 186),(GD b 187),(GD b 188),(GD b 189),O,O,O,O,O,O,O,O,O,O,O,O,O,O,O,O,O,O,O,O,O,O,O,O,O,O,O,O,O,O,O,O,O,O],[]⟩∧St w w' [⟨N,wc (outs),100⟩,⟨D,wc (vl),100⟩,⟨p,wc (pre++V++post),100⟩]∧(A≤k)∧(F≤1)∧(Back S vl A F V)∧k - A=mm) (k) ⟨0,0,S,[(GD b 10),(GD b 11),(GD b 148),(GD b 149),(GD b 150),(GD b 151),(GD b 152),(GD b 153),(GD b 154),(GD b 155),(GD b 156),(GD b 157),(GD b 158),(GD b 159),(GD b 160),(GD b 161),(GD b 162),(GD b 163),(GD b 164),(GD b 165),(GD b 166),(GD b 167),(GD b 168),(GD b 169),(GD b 170),(GD b 171),(GD b 172),(GD b 173),(GD b 174)],rfl,aC,by omega,by omega,Back.start ac.2.1,rfl⟩ ?_
  rintro _ _ be ⟨A,F,V,o,rfl,au,bf,bg,W,rfl⟩
  refine wp_seq_k fun bh aD=>?_
  refine wp_region_lit ?_
  by_cases aF:(((A:Nat):Int):Int)<(k:Int)
  ·skip
   refine PV (T true) (CT (run_bin (I ((A:Nat):Int)) (I (k:Int)) _ rfl rfl rfl (bin_lss_3 _ _ _ _)) (congrArg Value.bool (decide_eq_true aF))) rfl ?_
   simp only [PA]
   refine wpList_nil ?_
   refine aD _ _ ?_
   refine wp_seq_k fun bi aQ=>?_
   refine cond_true rfl ?_
   refine wp_skip ?_
   refine aQ _ _ ?_
   refine wp_seq_k fun bj aR=>?_
   refine wp_block ?_
   refine wp_seq_k fun bk aS=>?_
   refine wp_region_lit ?_
   refine PV (I ((A:Nat):Int)) rfl rfl ?_
   simp only [PA]
   refine PV (I ((A:Nat):Int)) rfl rfl ?_
   simp only [PA]
   refine wpList_nil ?_
   refine aS _ _ ?_
   refine wp_seq_k fun bl aU=>?_
   refine region_drawnP 16 (fun j=>decide (16≤j)) (by kernel_rfl) rfl au fun bm av bn=>?_
   refine anyT_here (i:=0) (E (some ⟨p,0,none⟩) n1 n1) rfl (by kernel_rfl) (by kernel_rfl) (by kernel_rfl) (by kernel_rfl) (fun _ _ _ h=>hQp _ _ _ _ _ h) rfl rfl ?_
   simp only [PA]
   refine anyT_here (i:=1) (I ((A:Nat):Int)) rfl (by kernel_rfl) (by kernel_rfl) (by kernel_rfl) (by kernel_rfl) (fun _ _ _ h=>hQp _ _ _ _ _ h) rfl rfl ?_
   simp only [PA]
   refine anyT_here (i:=2) (I ((pre.length:Nat):Int)) rfl (by kernel_rfl) (by kernel_rfl) (by kernel_rfl) (by kernel_rfl) (fun _ _ _ h=>hQp _ _ _ _ _ h) rfl (CT rfl (vint (by omega))) ?_
   simp only [PA]
   refine anyT_here (i:=3) (I ((pre.length+A:Nat):Int)) rfl (by kernel_rfl) (by kernel_rfl) (by kernel_rfl) (by kernel_rfl) (fun _ _ _ h=>hQp _ _ _ _ _ h) rfl (CT (run_bin (I ((A:Nat):Int)) (I ((pre.length:Nat):Int)) _ rfl rfl rfl (bin_add_3 _ _ _ _)) (vint (by rw [IntKind.wrap_i64]; omega))) ?_
   simp only [PA]
   refine anyT_here (i:=4) (.pointer (some ⟨p,(pre.length+A),none⟩)) rfl (by kernel_rfl) (by kernel_rfl) (by kernel_rfl) (by kernel_rfl) (fun _ _ _ h=>hQp _ _ _ _ _ h) rfl (run_idxB rfl rfl rfl (by omega)) ?_
   simp only [PA]
   obtain ⟨c0j,aw⟩:∃ z:Nat,S.getD A 0=z:=⟨_,rfl⟩
   have hc0B:c0j<BW:=aw▸ac.2.1.at_ A
   refine anyT_here (i:=5) (.int .u32 ((c0j:Nat):Int)) rfl (by kernel_rfl) (by kernel_rfl) (by kernel_rfl) (by kernel_rfl) (fun _ _ _ h=>hQp _ _ _ _ _ h) rfl (CT (run_loadWin rfl rfl (av.at_ _ (MI (i:=2) rfl)) (by first | omega | (have:=W.1; omega))) (vnat ((W.2.2.1 A (Nat.le_refl _)).trans aw))) ?_
   simp only [PA]
   refine anyT_here (i:=6) (J ((c0j:Nat):Int)) rfl (by kernel_rfl) (by kernel_rfl) (by kernel_rfl) (by kernel_rfl) (fun _ _ _ h=>hQp _ _ _ _ _ h) rfl (run_cv _ rfl rfl rfl rfl (wrap_u64 (by have:=hc0B; rw [BW_eq] at this; omega))) ?_
   simp only [PA]
   refine anyT_here (i:=7) (E (some ⟨D,0,none⟩) k k) rfl (by kernel_rfl) (by kernel_rfl) (by kernel_rfl) (by kernel_rfl) (fun _ _ _ h=>hQp _ _ _ _ _ h) rfl rfl ?_
   simp only [PA]
   refine anyT_here (i:=8) (I ((A:Nat):Int)) rfl (by kernel_rfl) (by kernel_rfl) (by kernel_rfl) (by kernel_rfl) (fun _ _ _ h=>hQp _ _ _ _ _ h) rfl rfl ?_
   simp only [PA]
   refine anyT_here (i:=9) (.pointer (some ⟨D,A,none⟩)) rfl (by kernel_rfl) (by kernel_rfl) (by kernel_rfl) (by kernel_rfl) (fun _ _ _ h=>hQp _ _ _ _ _ h) rfl (run_idxB rfl rfl rfl (by omega)) ?_
   simp only [PA]
   obtain ⟨y2j,ax⟩:∃ z:Nat,vl.getD A 0=z:=⟨_,rfl⟩
   have hy2B:y2j<BW:=ax▸hvD.at_ A
   refine anyT_here (i:=10) (.int .u32 ((y2j:Nat):Int)) rfl (by kernel_rfl) (by kernel_rfl) (by kernel_rfl) (by kernel_rfl) (fun _ _ _ h=>hQp _ _ _ _ _ h) rfl (CT (run_loadB rfl rfl (av.at_ _ (MI (i:=1) rfl)) (by first | omega | (have:=hV.1; omega))) (vnat ax)) ?_
   simp only [PA]
   refine anyT_here (i:=11) (J ((y2j:Nat):Int)) rfl (by kernel_rfl) (by kernel_rfl) (by kernel_rfl) (by kernel_rfl) (fun _ _ _ h=>hQp _ _ _ _ _ h) rfl (run_cv _ rfl rfl rfl rfl (wrap_u64 (by have:=hy2B; rw [BW_eq] at this; omega))) ?_
   simp only [PA]
   refine anyT_here (i:=12) (J ((c0j+y2j:Nat):Int)) rfl (by kernel_rfl) (by kernel_rfl) (by kernel_rfl) (by kernel_rfl) (fun _ _ _ h=>hQp _ _ _ _ _ h) rfl (CT (run_bin (J ((c0j:Nat):Int)) (J ((y2j:Nat):Int)) _ rfl rfl rfl (bin_add_104 _ _ _ _)) (vint (w_add (m:=c0j) (n:=y2j) (by rw [BW_eq] at hc0B hy2B; omega)))) ?_
   simp only [PA]
   refine anyT_here (i:=13) (J ((F:Nat):Int)) rfl (by kernel_rfl) (by kernel_rfl) (by kernel_rfl) (by kernel_rfl) (fun _ _ _ h=>hQp _ _ _ _ _ h) rfl rfl ?_
   simp only [PA]
   obtain ⟨L,aV⟩:∃ z:Nat,F+c0j+y2j=z:=⟨_,rfl⟩
   refine anyT_here (i:=14) (J ((L:Nat):Int)) rfl (by kernel_rfl) (by kernel_rfl) (by kernel_rfl) (by kernel_rfl) (fun _ _ _ h=>hQp _ _ _ _ _ h) rfl (CT (run_bin (J ((c0j+y2j:Nat):Int)) (J ((F:Nat):Int)) _ rfl rfl rfl (bin_add_104 _ _ _ _)) ((vint (w_add (m:=c0j+y2j) (n:=F) (by rw [BW_eq] at hc0B hy2B; omega))).trans (vnat (by omega)))) ?_
   simp only [PA]
   refine anyT_here (i:=15) (J ((L:Nat):Int)) rfl (by kernel_rfl) (by kernel_rfl) (by kernel_rfl) (by kernel_rfl) (fun _ _ _ h=>hQp _ _ _ _ _ h) rfl rfl ?_
   simp only [PA]
   refine anyT_done (by kernel_rfl) ?_ _
   refine aU _ _ ?_
   refine wp_seq_k fun bo aW=>?_
   refine wp_region_lit ?_
   refine PV (E (some ⟨p,0,none⟩) n1 n1) rfl rfl ?_
   simp only [PA]
   refine PV (I ((A:Nat):Int)) rfl rfl ?_
   simp only [PA]
   refine PV (I ((pre.length:Nat):Int)) (CT rfl (vint (by omega))) rfl ?_
   simp only [PA]
   refine PV (I ((pre.length+A:Nat):Int)) (CT (run_bin (I ((A:Nat):Int)) (I ((pre.length:Nat):Int)) _ rfl rfl rfl (bin_add_3 _ _ _ _)) (vint (by rw [IntKind.wrap_i64]; omega))) rfl ?_
   simp only [PA]
   refine PV (J ((L:Nat):Int)) rfl rfl ?_
   simp only [PA]
   obtain ⟨e3,aG⟩:∃ z:Nat,L % BW=z:=⟨_,rfl⟩
   refine PV (.int .u32 ((e3:Nat):Int)) (CT (run_cv _ rfl rfl rfl rfl (wrap_u32)) (vnat aG)) rfl ?_
   simp only [PA]
   refine PV (.pointer (some ⟨p,(pre.length+A),none⟩)) (run_idxB rfl rfl rfl (by omega)) rfl ?_
   simp only [PA]
   refine wpList_plain rfl fun K hK=>o_stWin 2 (e3) ([⟨N,wc (outs),100⟩,⟨D,wc (vl),100⟩,⟨p,wc (pre++((V).set ((A)) (e3))++post),100⟩]) rfl rfl rfl av rfl (by first | omega | (have:=W.1; omega)) rfl fun bp aX=>hK _ _ ?_
   simp only [PA]
   refine wpList_nil ?_
   refine aW _ _ ?_
   refine wp_region_lit ?_
   refine PV (J ((L:Nat):Int)) rfl rfl ?_
   simp only [PA]
   refine PV (J ((L / BW:Nat):Int)) (CT (run_bin (J ((L:Nat):Int)) (J 32) _ rfl rfl rfl (bin_shr_104_u64 _ _ _ _)) (vint w_shr32)) rfl ?_
   simp only [PA]
   refine PV (J ((L / BW:Nat):Int)) rfl rfl ?_
   simp only [PA]
   refine wpList_nil ?_
   refine aR _ _ ?_
   refine wp_region_lit ?_
   refine PV (I ((A+1:Nat):Int)) (CT (run_bin (I ((A:Nat):Int)) (I 1) _ rfl rfl rfl (bin_add_3 _ _ _ _)) (vint (i_add (m:=A) (n:=1) (by omega)))) rfl ?_
   simp only [PA]
   refine PV (I ((A+1:Nat):Int)) rfl rfl ?_
   simp only [PA]
   refine wpList_nil ?_
   exact ⟨k - (A+1),by omega,A+1,L / BW,((V).set ((A)) (e3)),[I ((A:Nat):Int),J ((L:Nat):Int),T true,I ((A:Nat):Int),E (some ⟨p,0,none⟩) n1 n1,I ((A:Nat):Int),I ((pre.length:Nat):Int),I ((pre.length+A:Nat):Int),.pointer (some ⟨p,(pre.length+A),none⟩),.int .u32 ((c0j:Nat):Int),J ((c0j:Nat):Int),E (some ⟨D,0,none⟩) k k,I ((A:Nat):Int),.pointer (some ⟨D,A,none⟩),.int .u32 ((y2j:Nat):Int),J ((y2j:Nat):Int),J ((c0j+y2j:Nat):Int),J ((F:Nat):Int),J ((L:Nat):Int),E (some ⟨p,0,none⟩) n1 n1,I ((A:Nat):Int),I ((pre.length:Nat):Int),I ((pre.length+A:Nat):Int),J ((L:Nat):Int),.int .u32 ((e3:Nat):Int),.pointer (some ⟨p,(pre.length+A),none⟩),J ((L:Nat):Int),J ((L / BW:Nat):Int),I ((A+1:Nat):Int)],rfl,aX,by omega,by rw [BW_eq] at *; omega,W.next (by omega) aw ax aV aG,rfl⟩
  ·skip
   refine PV (T false) (CT (run_bin (I ((A:Nat):Int)) (I (k:Int)) _ rfl rfl rfl (bin_lss_3 _ _ _ _)) (congrArg Value.bool (decide_eq_false aF))) rfl ?_
   simp only [PA]
   refine wpList_nil ?_
   refine aD _ _ ?_
   refine wp_seq_k fun bq bs=>?_
   refine cond_false rfl ?_
   refine wp_exit ?_
   refine aN _ _ ?_
   refine wp_region_lit ?_
   refine PV (E (some ⟨p,0,none⟩) n1 n1) rfl rfl ?_
   simp only [PA]
   refine PV (I ((pre.length:Nat):Int)) (CT rfl (vint (by omega))) rfl ?_
   simp only [PA]
   refine PV (I (k:Int)) rfl rfl ?_
   simp only [PA]
   refine PV (I ((pre.length+k:Nat):Int)) (CT (run_bin (I ((pre.length:Nat):Int)) (I (k:Int)) _ rfl rfl rfl (bin_add_3 _ _ _ _)) (vint (by rw [IntKind.wrap_i64]; omega))) rfl ?_
   simp only [PA]
   refine PV (.pointer (some ⟨p,(pre.length+k),none⟩)) (run_idxB rfl rfl rfl (by omega)) rfl ?_
   simp only [PA]
   obtain ⟨x4,ay⟩:∃ z:Nat,S.getD k 0=z:=⟨_,rfl⟩
   have hx4B:x4<BW:=ay▸ac.2.1.at_ k
   have hBk:Back S vl k F V:=(show A=k by omega)▸W
   refine PV (.int .u32 ((x4:Nat):Int)) (CT (run_loadWin rfl rfl (au.at_ _ (MI (i:=2) rfl)) (by first | omega | (have:=W.1; omega))) (vnat ((W.2.2.1 k (by omega)).trans ay))) rfl ?_
   simp only [PA]
   refine PV (J ((F:Nat):Int)) rfl rfl ?_
   simp only [PA]
   refine PV (.int .u32 ((F:Nat):Int)) (CT (run_cv _ rfl rfl rfl rfl (wrap_u32)) (vnat (Nat.mod_eq_of_lt (by rw [BW_eq]; omega)))) rfl ?_
   simp only [PA]
   obtain ⟨e4,aH⟩:∃ z:Nat,(x4+F) % BW=z:=⟨_,rfl⟩
   have W1:=word1 (r:=0) G hq.2.1 hq.2.2 ac (back_top hBk (by omega) hvlen ay aH) (by rw [BW_eq] at *; omega) hwl hvlen hvD
   have bt:=hq.1
   refine PV (.int .u32 ((e4:Nat):Int)) (CT (run_bin (.int .u32 ((x4:Nat):Int)) (.int .u32 ((F:Nat):Int)) _ rfl rfl rfl (bin_add_100 _ _ _ _)) ((vint w_add32).trans (vnat aH))) rfl ?_
   simp only [PA]
   refine PV (.pointer (some ⟨p,(pre.length+k),none⟩)) (run_idxB rfl rfl rfl (by omega)) rfl ?_
   simp only [PA]
   refine wpList_plain rfl fun K hK=>o_stWin 2 (e4) ([⟨N,wc (outs),100⟩,⟨D,wc (vl),100⟩,⟨p,wc (pre++((V).set ((k)) (e4))++post),100⟩]) rfl rfl rfl au rfl (by first | omega | (have:=W.1; omega)) rfl fun bu aY=>hK _ _ ?_
   simp only [PA]
   refine wpList_nil ?_
   exact ⟨q - 1,((V).set ((k)) (e4)),[J ((F:Nat):Int),(GD o 0),(GD o 1),I (((C:Nat):Int) - ((br:Nat):Int) - ((cy:Nat):Int)),T true,J ((q:Nat):Int),J ((q - 1:Nat):Int),I (k:Int),I ((A:Nat):Int),T false,(GD o 3),(GD o 4),(GD o 5),(GD o 6),(GD o 7),(GD o 8),(GD o 9),(GD o 10),(GD o 11),(GD o 12),(GD o 13),(GD o 14),(GD o 15),(GD o 16),(GD o 17),(GD o 18),(GD o 19),(GD o 20),(GD o 21),(GD o 22),(GD o 23),(GD o 24),(GD o 25),(GD o 26),(GD o 27),(GD o 28),E (some ⟨p,0,none⟩) n1 n1,I ((pre.length:Nat):Int),I (k:Int),I ((pre.length+k:Nat):Int),.pointer (some ⟨p,(pre.length+k),none⟩),.int .u32 ((x4:Nat):Int),J ((F:Nat):Int),.int .u32 ((F:Nat):Int),.int .u32 ((e4:Nat):Int),.pointer (some ⟨p,(pre.length+k),none⟩)],rfl,aY,W1.2.1,by omega,W1.2.2.1,W1.2.2.2.1,W1.2.2.2.2,trivial⟩
 ·skip
  refine PV (T false) (CT (run_bin (I (((C:Nat):Int) - ((br:Nat):Int) - ((cy:Nat):Int))) (I 0) _ rfl rfl rfl (bin_lss_2 _ _ _ _)) (congrArg Value.bool (decide_eq_false X))) rfl ?_
  simp only [PA]
  refine wpList_nil ?_
  refine aA _ _ ?_
  refine cond_false rfl ?_
  refine wp_skip ?_
  exact ⟨q,S,[(GD b 9),(GD b 10),(GD b 11),I (((C:Nat):Int) - ((br:Nat):Int) - ((cy:Nat):Int)),T false,(GD b 144),(GD b 145),(GD b 146),(GD b 147),(GD b 148),(GD b 149),(GD b 150),(GD b 151),(GD b 152),(GD b 153),(GD b 154),(GD b 155),(GD b 156),(GD b 157),(GD b 158),(GD b 159),(GD b 160),(GD b 161),(GD b 162),(GD b 163),(GD b 164),(GD b 165),(GD b 166),(GD b 167),(GD b 168),(GD b 169),(GD b 170),(GD b 171),(GD b 172),(GD b 173),(GD b 174),(GD b 175),(GD b 176),(GD b 177),(GD b 178),(GD b 179),(GD b 180),(GD b 181),(GD b 182),(GD b 183),(GD b 184)],rfl,aC,(word0 (r:=0) G hq.2.1 hq.2.2 (aa▸sub_top hIk (by omega) hvlen ae ah.2 hcy (sdiff_p af hcy hbr ag X)) hwl hvlen).1,hq.1,(word0 (r:=0) G hq.2.1 hq.2.2 (aa▸sub_top hIk (by omega) hvlen ae ah.2 hcy (sdiff_p af hcy hbr ag X)) hwl hvlen).2.1,(word0 (r:=0) G hq.2.1 hq.2.2 (aa▸sub_top hIk (by omega) hvlen ae ah.2 hcy (sdiff_p af hcy hbr ag X)) hwl hvlen).2.2.1,(word0 (r:=0) G hq.2.1 hq.2.2 (aa▸sub_top hIk (by omega) hvlen ae ah.2 hcy (sdiff_p af hcy hbr ag X)) hwl hvlen).2.2.2,trivial⟩
end Go.Proofs.Ythhgjloephkpaaa
