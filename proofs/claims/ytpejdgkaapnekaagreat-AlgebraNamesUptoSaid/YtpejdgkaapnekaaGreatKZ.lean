import Derived.Test.YtpejdgkaapnekaaGreatPb
import Derived.Test.YtpejdgkaapnekaaGreatKF0
import Derived.Test.YtpejdgkaapnekaaGreatKF1
import Derived.Test.YtpejdgkaapnekaaGreatKF2
import Derived.Test.YtpejdgkaapnekaaGreatKF3
import Derived.Test.YtpejdgkaapnekaaGreatKF4
import Derived.Test.YtpejdgkaapnekaaGreatKF5
set_option linter.unusedVariables false
set_option linter.unusedSimpArgs false

namespace Go.Proofs.YtpejdgkaapnekaaGreat
open Go Go.Abs
set_option maxRecDepth 1000000
theorem k53 : EntOk Tryz.prog e53 := entOk progOk (l := []) trivial b53
theorem k69 : EntOk Tryz.prog e69 := entOk progOk (l := []) trivial b69
theorem k92 : EntOk Tryz.prog e92 := entOk progOk (l := []) trivial b92
theorem k98 : EntOk Tryz.prog e98 := entOk progOk (l := [e92]) ⟨k92, trivial⟩ b98
theorem k110 : EntOk Tryz.prog e110 := entOk progOk (l := []) trivial b110
theorem k136 : EntOk Tryz.prog e136 := entOk progOk (l := [e53]) ⟨k53, trivial⟩ b136
theorem k151 : EntOk Tryz.prog e151 := entOk progOk (l := []) trivial b151
theorem k152 : EntOk Tryz.prog e152 := entOk progOk (l := []) trivial b152
theorem k155 : EntOk Tryz.prog e155 := entOk progOk (l := [e152]) ⟨k152, trivial⟩ b155
theorem k188 : EntOk Tryz.prog e188 := entOk progOk (l := []) trivial b188
theorem k193 : EntOk Tryz.prog e193 := entOk progOk (l := [e188]) ⟨k188, trivial⟩ b193
theorem k198 : EntOk Tryz.prog e198 := entOk progOk (l := [e152, e193]) ⟨k152, k193, trivial⟩ b198
theorem k215 : EntOk Tryz.prog e215 := entOk progOk (l := []) trivial b215
theorem k219 : EntOk Tryz.prog e219 := entOk progOk (l := [e215]) ⟨k215, trivial⟩ b219
theorem k222 : EntOk Tryz.prog e222 := entOk progOk (l := [e152, e219]) ⟨k152, k219, trivial⟩ b222
theorem k235 : EntOk Tryz.prog e235 := entOk progOk (l := []) trivial b235
theorem k243 : EntOk Tryz.prog e243 := entOk progOk (l := [e235]) ⟨k235, trivial⟩ b243
theorem k258 : EntOk Tryz.prog e258 := entOk progOk (l := []) trivial b258
theorem k259 : EntOk Tryz.prog e259 := entOk progOk (l := [e53, e151, e155, e198, e222, e152, e243, e258]) ⟨k53, k151, k155, k198, k222, k152, k243, k258, trivial⟩ b259
theorem k285 : EntOk Tryz.prog e285 := entOk progOk (l := []) trivial b285
theorem k288 : EntOk Tryz.prog e288 := entOk progOk (l := []) trivial b288
theorem k290 : EntOk Tryz.prog e290 := entOk progOk (l := []) trivial b290
theorem k292 : EntOk Tryz.prog e292 := entOk progOk (l := []) trivial b292
theorem k317 : EntOk Tryz.prog e317 := entOk progOk (l := []) trivial b317
theorem k320 : EntOk Tryz.prog e320 := entOk progOk (l := [e317]) ⟨k317, trivial⟩ b320
theorem k321 : EntOk Tryz.prog e321 := entOk progOk (l := [e53, e285, e288, e290, e292, e320]) ⟨k53, k285, k288, k290, k292, k320, trivial⟩ b321
theorem k388 : EntOk Tryz.prog e388 := entOk progOk (l := []) trivial b388
theorem k391 : EntOk Tryz.prog e391 := entOk progOk (l := [e388]) ⟨k388, trivial⟩ b391
theorem k392 : EntOk Tryz.prog e392 := entOk progOk (l := [e53, e391]) ⟨k53, k391, trivial⟩ b392
theorem k417 : EntOk Tryz.prog e417 := entOk progOk (l := [e53]) ⟨k53, trivial⟩ b417
theorem k435 : EntOk Tryz.prog e435 := entOk progOk (l := []) trivial b435
theorem k436 : EntOk Tryz.prog e436 := entOk progOk (l := [e53, e435]) ⟨k53, k435, trivial⟩ b436
theorem k445 : EntOk Tryz.prog e445 := entOk progOk (l := [e53, e69, e98, e110, e136, e259, e321, e392, e417, e436]) ⟨k53, k69, k98, k110, k136, k259, k321, k392, k417, k436, trivial⟩ b445
end Go.Proofs.YtpejdgkaapnekaaGreat
